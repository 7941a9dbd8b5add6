/-
  Graphs that are none: nil, and the zero value; what Len says of them. Conditions: such a graph.
  Walks over the sums, and the laws' program, with graphs that are none. Conditions: such a graph.
  Walk over words of chapter 23's law: true. Conditions: at most 30 references and truths.
  Walk over SumsWords: true, whatever comes in. Conditions: none.
  Walk over SumsSmall: true. Conditions: none.
-/
import Derived.Test.YtchledddgmbndaaGreatQD
import Derived.Test.YtchledddgmbndaaGreatQF
namespace Go.Proofs.YtchledddgmbndaaGreat
open Go.RowKit Go.Mem Go.Aig
/-- a graph that is none: 'none' says so, here and in all worlds that come of it -/
def NoGr (w : World) (v : Value) : Prop := ∀ W, Ch [] w W → Calls Tryz.prog 59 #[v] W fun e w' => e = .returned (.bool true) ∧ W = w'
theorem NoGr.ch {w W : World} {v : Value} (h : NoGr w v) (hc : Ch [] w W) : NoGr W v := fun U hU => h U (hc.trans hU (by simp))
section
set_option maxRecDepth 100000 in
set_option maxHeartbeats 400000 in
theorem nogr_nil (w : World) : NoGr w (.pointer none) := fun W _ => by
  go_enter Tryz.func59, Tryz.ntmps59
  go_wp2_with fail
  go_ret
  exact ⟨rfl, rfl⟩
set_option maxRecDepth 100000 in
set_option maxHeartbeats 400000 in
theorem nogr_zero {w : World} {g : Nat} (h : blk w g [.int .i64 0, .slice none 0 0, .map none, .slice none 0 0]) : NoGr w (.pointer (some ⟨g, 0, none⟩)) := fun W hW => by
  have c2 := (h.ch hW (by simp)).cell (i := 2) rfl
  clear h
  go_enter Tryz.func59, Tryz.ntmps59
  go_wp2_with fail
  go_ret
  exact ⟨rfl, rfl⟩
set_option maxRecDepth 100000 in
set_option maxHeartbeats 400000 in
theorem Len_none {w : World} {p : Option Addr} (h : NoGr w (.pointer p)) : Calls Tryz.prog 19 #[.pointer p] w fun e w' => e = .returned (.int .i64 0) ∧ Ch [] w w' := by
  have H := Lib.hid h; clear h
  go_enter Tryz.func19, Tryz.ntmps19
  go_wp2_with fail
  refine (H.out _ ?hc).mono ?_
  case hc => repeat (first | refine Ch.alloc ?_ _ | exact Ch.refl _ _)
  rintro e w' ⟨rfl, rfl⟩
  go_wp2_with fail
  go_ret
  exact ⟨rfl, by repeat (first | refine Ch.alloc ?_ _ | exact Ch.refl _ _)⟩
end
end Go.Proofs.YtchledddgmbndaaGreat
namespace Go.Proofs.YtchledddgmbndaaGreat
open Go.RowKit Go.Mem Go.Aig
section
variable {w : World} {p : Option Addr}
set_option maxRecDepth 100000 in
set_option maxHeartbeats 2000000 in
theorem scheck_none (h : NoGr w (.pointer p)) (a : Option Addr) (n c : Nat) : Calls Tryz.prog 57 #[.pointer p, .slice a n c] w fun e w' => e = .returned (.int .i64 1) ∧ Ch [] w w' := by
  have H := Lib.hid h; clear h
  go_enter Tryz.func57, Tryz.ntmps57
  go_wp2_with fail
  refine wp_scope_straight ?_
  go_wp2_with fail
  refine calls_named fun W hW => ?_
  have hc : Ch [] w W := by rw [hW]; exact (Ch.refl _ _).alloc _
  clear hW
  refine (Len_none (H.out.ch hc)).mono ?_
  rintro e w2 ⟨rfl, hc2⟩
  have HC2 := Lib.hid (hc.trans hc2 (by simp)); clear hc2 hc
  go_wp2_with fail
  simp only [Exit.noGoto]
  go_ret
  exact ⟨rfl, HC2.out⟩
set_option maxRecDepth 100000 in
set_option maxHeartbeats 2000000 in
theorem sNot_none (h : NoGr w (.pointer p)) (xa : Option Addr) (n xc : Nat) : Calls Tryz.prog 45 #[.pointer p, .slice xa n xc] w fun e w' => e = .returned (.tuple #[.slice none 0 0, .int .i64 1]) ∧ Ch [] w w' := by
  have H := Lib.hid h; clear h
  go_enter Tryz.func45, Tryz.ntmps45
  go_wp2_with fail
  refine calls_named fun W hW => ?_
  have hc : Ch [] w W := by rw [hW]; repeat (first | exact Ch.refl _ _ | refine Ch.alloc ?_ _)
  clear hW
  refine (scheck_none (H.out.ch hc) _ _ _).mono ?_
  rintro e w2 ⟨rfl, hc2⟩
  have HC2 := Lib.hid (hc.trans hc2 (by simp)); clear hc2 hc
  go_wp2_with fail
  go_ret2
  exact ⟨rfl, HC2.out⟩
set_option maxRecDepth 100000 in
set_option maxHeartbeats 2000000 in
theorem sAny_none (h : NoGr w (.pointer p)) (xa : Option Addr) (n xc : Nat) : Calls Tryz.prog 17 #[.pointer p, .slice xa n xc] w fun e w' => e = .returned (.tuple #[.int .i64 0, .int .i64 1]) ∧ Ch [] w w' := by
  have H := Lib.hid h; clear h
  go_enter Tryz.func17, Tryz.ntmps17
  go_wp2_with fail
  refine calls_named fun W hW => ?_
  have hc : Ch [] w W := by rw [hW]; repeat (first | exact Ch.refl _ _ | refine Ch.alloc ?_ _)
  clear hW
  refine (scheck_none (H.out.ch hc) _ _ _).mono ?_
  rintro e w2 ⟨rfl, hc2⟩
  have HC2 := Lib.hid (hc.trans hc2 (by simp)); clear hc2 hc
  go_wp2_with fail
  go_ret2
  exact ⟨rfl, HC2.out⟩
set_option maxRecDepth 100000 in
set_option maxHeartbeats 2000000 in
theorem sAdd_none (h : NoGr w (.pointer p)) (xa ya : Option Addr) (n xc m yc : Nat) : Calls Tryz.prog 49 #[.pointer p, .slice xa n xc, .slice ya m yc] w fun e w' => e = .returned (.tuple #[.slice none 0 0, .int .i64 1]) ∧ Ch [] w w' := by
  have H := Lib.hid h; clear h
  go_enter Tryz.func49, Tryz.ntmps49
  go_wp2_with fail
  refine calls_named fun W hW => ?_
  have hc : Ch [] w W := by rw [hW]; repeat (first | exact Ch.refl _ _ | refine Ch.alloc ?_ _)
  clear hW
  refine (scheck_none (H.out.ch hc) _ _ _).mono ?_
  rintro e w2 ⟨rfl, hc2⟩
  have HC2 := Lib.hid (hc.trans hc2 (by simp)); clear hc2 hc
  go_wp2_with fail
  go_ret2
  exact ⟨rfl, HC2.out⟩
set_option maxRecDepth 100000 in
set_option maxHeartbeats 2000000 in
theorem sSub_none (h : NoGr w (.pointer p)) (xa ya : Option Addr) (n xc m yc : Nat) : Calls Tryz.prog 22 #[.pointer p, .slice xa n xc, .slice ya m yc] w fun e w' => e = .returned (.tuple #[.slice none 0 0, .int .i64 1]) ∧ Ch [] w w' := by
  have H := Lib.hid h; clear h
  go_enter Tryz.func22, Tryz.ntmps22
  go_wp2_with fail
  refine calls_named fun W hW => ?_
  have hc : Ch [] w W := by rw [hW]; repeat (first | exact Ch.refl _ _ | refine Ch.alloc ?_ _)
  clear hW
  refine (scheck_none (H.out.ch hc) _ _ _).mono ?_
  rintro e w2 ⟨rfl, hc2⟩
  have HC2 := Lib.hid (hc.trans hc2 (by simp)); clear hc2 hc
  go_wp2_with fail
  go_ret2
  exact ⟨rfl, HC2.out⟩
set_option maxRecDepth 100000 in
set_option maxHeartbeats 2000000 in
theorem sNe_none (h : NoGr w (.pointer p)) (xa ya : Option Addr) (n xc m yc : Nat) : Calls Tryz.prog 50 #[.pointer p, .slice xa n xc, .slice ya m yc] w fun e w' => e = .returned (.tuple #[.int .i64 0, .int .i64 1]) ∧ Ch [] w w' := by
  have H := Lib.hid h; clear h
  go_enter Tryz.func50, Tryz.ntmps50
  go_wp2_with fail
  refine calls_named fun W hW => ?_
  have hc : Ch [] w W := by rw [hW]; repeat (first | exact Ch.refl _ _ | refine Ch.alloc ?_ _)
  clear hW
  refine (scheck_none (H.out.ch hc) _ _ _).mono ?_
  rintro e w2 ⟨rfl, hc2⟩
  have HC2 := Lib.hid (hc.trans hc2 (by simp)); clear hc2 hc
  go_wp2_with fail
  go_ret2
  exact ⟨rfl, HC2.out⟩
set_option maxRecDepth 100000 in
set_option maxHeartbeats 2000000 in
theorem sLt_none (h : NoGr w (.pointer p)) (xa ya : Option Addr) (n xc m yc : Nat) : Calls Tryz.prog 23 #[.pointer p, .slice xa n xc, .slice ya m yc] w fun e w' => e = .returned (.tuple #[.int .i64 0, .int .i64 1]) ∧ Ch [] w w' := by
  have H := Lib.hid h; clear h
  go_enter Tryz.func23, Tryz.ntmps23
  go_wp2_with fail
  refine calls_named fun W hW => ?_
  have hc : Ch [] w W := by rw [hW]; repeat (first | exact Ch.refl _ _ | refine Ch.alloc ?_ _)
  clear hW
  refine (scheck_none (H.out.ch hc) _ _ _).mono ?_
  rintro e w2 ⟨rfl, hc2⟩
  have HC2 := Lib.hid (hc.trans hc2 (by simp)); clear hc2 hc
  go_wp2_with fail
  go_ret2
  exact ⟨rfl, HC2.out⟩
set_option maxRecDepth 100000 in
set_option maxHeartbeats 2000000 in
theorem sInput_none (h : NoGr w (.pointer p)) (N : Int) : Calls Tryz.prog 20 #[.pointer p, .int .i64 N] w fun e w' => e = .returned (.tuple #[.slice none 0 0, .int .i64 1]) ∧ Ch [] w w' := by
  have H := Lib.hid h; clear h
  go_enter Tryz.func20, Tryz.ntmps20
  go_wp2_with fail
  refine calls_named fun W hW => ?_
  have hc : Ch [] w W := by rw [hW]; repeat (first | exact Ch.refl _ _ | refine Ch.alloc ?_ _)
  clear hW
  refine (Len_none (H.out.ch hc)).mono ?_
  rintro e w2 ⟨rfl, hc2⟩
  have HC2 := Lib.hid (hc.trans hc2 (by simp)); clear hc2 hc
  go_wp2_with fail
  go_ret2
  exact ⟨rfl, HC2.out⟩
set_option maxRecDepth 100000 in
set_option maxHeartbeats 2000000 in
theorem sEq_none (h : NoGr w (.pointer p)) (xa ya : Option Addr) (n xc m yc : Nat) : Calls Tryz.prog 25 #[.pointer p, .slice xa n xc, .slice ya m yc] w fun e w' => e = .returned (.tuple #[.int .i64 0, .int .i64 1]) ∧ Ch [] w w' := by
  have H := Lib.hid h; clear h
  go_enter Tryz.func25, Tryz.ntmps25
  go_wp2_with fail
  refine calls_named fun W hW => ?_
  have hc : Ch [] w W := by rw [hW]; repeat (first | exact Ch.refl _ _ | refine Ch.alloc ?_ _)
  clear hW
  refine (sNe_none (H.out.ch hc) xa ya n xc m yc).mono ?_
  rintro e w2 ⟨rfl, hc2⟩
  have HC2 := Lib.hid (hc.trans hc2 (by simp)); clear hc2 hc
  go_wp2_with fail
  go_ret2
  exact ⟨rfl, HC2.out⟩
set_option maxRecDepth 100000 in
set_option maxHeartbeats 2000000 in
theorem sLe_none (h : NoGr w (.pointer p)) (xa ya : Option Addr) (n xc m yc : Nat) : Calls Tryz.prog 51 #[.pointer p, .slice xa n xc, .slice ya m yc] w fun e w' => e = .returned (.tuple #[.int .i64 0, .int .i64 1]) ∧ Ch [] w w' := by
  have H := Lib.hid h; clear h
  go_enter Tryz.func51, Tryz.ntmps51
  go_wp2_with fail
  refine calls_named fun W hW => ?_
  have hc : Ch [] w W := by rw [hW]; repeat (first | exact Ch.refl _ _ | refine Ch.alloc ?_ _)
  clear hW
  refine (sLt_none (H.out.ch hc) ya xa m yc n xc).mono ?_
  rintro e w2 ⟨rfl, hc2⟩
  have HC2 := Lib.hid (hc.trans hc2 (by simp)); clear hc2 hc
  go_wp2_with fail
  go_ret2
  exact ⟨rfl, HC2.out⟩
set_option maxRecDepth 100000 in
set_option maxHeartbeats 2000000 in
theorem seach_none (h : NoGr w (.pointer p)) (xa ya : Option Addr) (n xc m yc : Nat) (fid : Nat) : Calls Tryz.prog 64 #[.pointer p, .slice xa n xc, .slice ya m yc, .func (.func fid) #[.pointer p] #[]] w fun e w' => e = .returned (.tuple #[.slice none 0 0, .int .i64 1]) ∧ Ch [] w w' := by
  have H := Lib.hid h; clear h
  go_enter Tryz.func64, Tryz.ntmps64
  go_wp2_with fail
  refine calls_named fun W hW => ?_
  have hc : Ch [] w W := by rw [hW]; repeat (first | exact Ch.refl _ _ | refine Ch.alloc ?_ _)
  clear hW
  refine (scheck_none (H.out.ch hc) _ _ _).mono ?_
  rintro e w2 ⟨rfl, hc2⟩
  have HC2 := Lib.hid (hc.trans hc2 (by simp)); clear hc2 hc
  go_wp2_with fail
  go_ret2
  exact ⟨rfl, HC2.out⟩
set_option maxRecDepth 100000 in
set_option maxHeartbeats 2000000 in
theorem sAnd_none (h : NoGr w (.pointer p)) (xa ya : Option Addr) (n xc m yc : Nat) : Calls Tryz.prog 47 #[.pointer p, .slice xa n xc, .slice ya m yc] w fun e w' => e = .returned (.tuple #[.slice none 0 0, .int .i64 1]) ∧ Ch [] w w' := by
  have H := Lib.hid h; clear h
  go_enter Tryz.func47, Tryz.ntmps47
  go_wp2_with fail
  refine calls_named fun W hW => ?_
  have hc : Ch [] w W := by rw [hW]; repeat (first | exact Ch.refl _ _ | refine Ch.alloc ?_ _)
  clear hW
  refine (seach_none (H.out.ch hc) xa ya n xc m yc _).mono ?_
  rintro e w2 ⟨rfl, hc2⟩
  have HC2 := Lib.hid (hc.trans hc2 (by simp)); clear hc2 hc
  go_wp2_with fail
  go_ret2
  exact ⟨rfl, HC2.out⟩
set_option maxRecDepth 100000 in
set_option maxHeartbeats 2000000 in
theorem sOr_none (h : NoGr w (.pointer p)) (xa ya : Option Addr) (n xc m yc : Nat) : Calls Tryz.prog 48 #[.pointer p, .slice xa n xc, .slice ya m yc] w fun e w' => e = .returned (.tuple #[.slice none 0 0, .int .i64 1]) ∧ Ch [] w w' := by
  have H := Lib.hid h; clear h
  go_enter Tryz.func48, Tryz.ntmps48
  go_wp2_with fail
  refine calls_named fun W hW => ?_
  have hc : Ch [] w W := by rw [hW]; repeat (first | exact Ch.refl _ _ | refine Ch.alloc ?_ _)
  clear hW
  refine (seach_none (H.out.ch hc) xa ya n xc m yc _).mono ?_
  rintro e w2 ⟨rfl, hc2⟩
  have HC2 := Lib.hid (hc.trans hc2 (by simp)); clear hc2 hc
  go_wp2_with fail
  go_ret2
  exact ⟨rfl, HC2.out⟩
set_option maxRecDepth 100000 in
set_option maxHeartbeats 2000000 in
theorem sXor_none (h : NoGr w (.pointer p)) (xa ya : Option Addr) (n xc m yc : Nat) : Calls Tryz.prog 21 #[.pointer p, .slice xa n xc, .slice ya m yc] w fun e w' => e = .returned (.tuple #[.slice none 0 0, .int .i64 1]) ∧ Ch [] w w' := by
  have H := Lib.hid h; clear h
  go_enter Tryz.func21, Tryz.ntmps21
  go_wp2_with fail
  refine calls_named fun W hW => ?_
  have hc : Ch [] w W := by rw [hW]; repeat (first | exact Ch.refl _ _ | refine Ch.alloc ?_ _)
  clear hW
  refine (seach_none (H.out.ch hc) xa ya n xc m yc _).mono ?_
  rintro e w2 ⟨rfl, hc2⟩
  have HC2 := Lib.hid (hc.trans hc2 (by simp)); clear hc2 hc
  go_wp2_with fail
  go_ret2
  exact ⟨rfl, HC2.out⟩
set_option maxRecDepth 100000 in
set_option maxHeartbeats 2000000 in
theorem sNeg_none (h : NoGr w (.pointer p)) (xa : Option Addr) (n xc : Nat) (hn : n ≤ 1000000) : Calls Tryz.prog 46 #[.pointer p, .slice xa n xc] w fun e w' => e = .returned (.tuple #[.slice none 0 0, .int .i64 1]) ∧ Ch [] w w' := by
  have H := Lib.hid h; clear h
  have hmm := run_make_refs w n hn
  go_enter Tryz.func46, Tryz.ntmps46
  go_wp2_with fail
  refine calls_named fun W hW => ?_
  have hc : Ch [] w W := by rw [hW]; repeat (first | exact Ch.refl _ _ | refine Ch.alloc ?_ _)
  clear hW
  refine (sSub_none (H.out.ch hc) _ _ _ _ _ _).mono ?_
  rintro e w2 ⟨rfl, hc2⟩
  have HC2 := Lib.hid (hc.trans hc2 (by simp)); clear hc2 hc
  go_wp2_with fail
  go_ret2
  exact ⟨rfl, HC2.out⟩
set_option maxRecDepth 100000 in
set_option maxHeartbeats 2000000 in
theorem program23_none_0 (h : NoGr w (.pointer p)) (kind : Nat) (hk : (kind : Int) % 13 = 0) (xa ya : Option Addr) (xc yc : Nat) :
    Calls Tryz.prog 40 #[.pointer p, .agg #[.int .u8 kind, .slice none 0 0, .slice none 0 0, .int .i64 3], .slice xa 1 xc, .slice ya 1 yc] w fun e w' => e = .returned (.tuple #[.slice none 0 0, .int .i64 0, .int .i64 1]) ∧ Ch [] w w' := by
  have H := Lib.hid h; clear h
  go_enter Tryz.func40, Tryz.ntmps40
  go_wp2_with fail
  refine calls_named fun W hW => ?_
  have hc : Ch [] w W := by rw [hW]; exact (Ch.refl _ _).alloc _
  clear hW
  refine (sNot_none (H.out.ch hc) xa 1 xc).mono ?_
  rintro e w2 ⟨rfl, hc2⟩
  have HC2 := Lib.hid (hc.trans hc2 (by simp)); clear hc2 hc
  go_wp2_with fail
  go_ret3
  exact ⟨rfl, HC2.out⟩
set_option maxRecDepth 100000 in
set_option maxHeartbeats 2000000 in
theorem program23_none_1 (h : NoGr w (.pointer p)) (kind : Nat) (hk : (kind : Int) % 13 = 1) (xa ya : Option Addr) (xc yc : Nat) :
    Calls Tryz.prog 40 #[.pointer p, .agg #[.int .u8 kind, .slice none 0 0, .slice none 0 0, .int .i64 3], .slice xa 1 xc, .slice ya 1 yc] w fun e w' => e = .returned (.tuple #[.slice none 0 0, .int .i64 0, .int .i64 1]) ∧ Ch [] w w' := by
  have H := Lib.hid h; clear h
  go_enter Tryz.func40, Tryz.ntmps40
  go_wp2_with fail
  refine calls_named fun W hW => ?_
  have hc : Ch [] w W := by rw [hW]; exact (Ch.refl _ _).alloc _
  clear hW
  refine (sNeg_none (H.out.ch hc) xa 1 xc (by omega)).mono ?_
  rintro e w2 ⟨rfl, hc2⟩
  have HC2 := Lib.hid (hc.trans hc2 (by simp)); clear hc2 hc
  go_wp2_with fail
  go_ret3
  exact ⟨rfl, HC2.out⟩
set_option maxRecDepth 100000 in
set_option maxHeartbeats 2000000 in
theorem program23_none_2 (h : NoGr w (.pointer p)) (kind : Nat) (hk : (kind : Int) % 13 = 2) (xa ya : Option Addr) (xc yc : Nat) :
    Calls Tryz.prog 40 #[.pointer p, .agg #[.int .u8 kind, .slice none 0 0, .slice none 0 0, .int .i64 3], .slice xa 1 xc, .slice ya 1 yc] w fun e w' => e = .returned (.tuple #[.slice none 0 0, .int .i64 0, .int .i64 1]) ∧ Ch [] w w' := by
  have H := Lib.hid h; clear h
  go_enter Tryz.func40, Tryz.ntmps40
  go_wp2_with fail
  refine calls_named fun W hW => ?_
  have hc : Ch [] w W := by rw [hW]; exact (Ch.refl _ _).alloc _
  clear hW
  refine (sAnd_none (H.out.ch hc) xa ya 1 xc 1 yc).mono ?_
  rintro e w2 ⟨rfl, hc2⟩
  have HC2 := Lib.hid (hc.trans hc2 (by simp)); clear hc2 hc
  go_wp2_with fail
  go_ret3
  exact ⟨rfl, HC2.out⟩
set_option maxRecDepth 100000 in
set_option maxHeartbeats 2000000 in
theorem program23_none_3 (h : NoGr w (.pointer p)) (kind : Nat) (hk : (kind : Int) % 13 = 3) (xa ya : Option Addr) (xc yc : Nat) :
    Calls Tryz.prog 40 #[.pointer p, .agg #[.int .u8 kind, .slice none 0 0, .slice none 0 0, .int .i64 3], .slice xa 1 xc, .slice ya 1 yc] w fun e w' => e = .returned (.tuple #[.slice none 0 0, .int .i64 0, .int .i64 1]) ∧ Ch [] w w' := by
  have H := Lib.hid h; clear h
  go_enter Tryz.func40, Tryz.ntmps40
  go_wp2_with fail
  refine calls_named fun W hW => ?_
  have hc : Ch [] w W := by rw [hW]; exact (Ch.refl _ _).alloc _
  clear hW
  refine (sOr_none (H.out.ch hc) xa ya 1 xc 1 yc).mono ?_
  rintro e w2 ⟨rfl, hc2⟩
  have HC2 := Lib.hid (hc.trans hc2 (by simp)); clear hc2 hc
  go_wp2_with fail
  go_ret3
  exact ⟨rfl, HC2.out⟩
set_option maxRecDepth 100000 in
set_option maxHeartbeats 2000000 in
theorem program23_none_4 (h : NoGr w (.pointer p)) (kind : Nat) (hk : (kind : Int) % 13 = 4) (xa ya : Option Addr) (xc yc : Nat) :
    Calls Tryz.prog 40 #[.pointer p, .agg #[.int .u8 kind, .slice none 0 0, .slice none 0 0, .int .i64 3], .slice xa 1 xc, .slice ya 1 yc] w fun e w' => e = .returned (.tuple #[.slice none 0 0, .int .i64 0, .int .i64 1]) ∧ Ch [] w w' := by
  have H := Lib.hid h; clear h
  go_enter Tryz.func40, Tryz.ntmps40
  go_wp2_with fail
  refine calls_named fun W hW => ?_
  have hc : Ch [] w W := by rw [hW]; exact (Ch.refl _ _).alloc _
  clear hW
  refine (sXor_none (H.out.ch hc) xa ya 1 xc 1 yc).mono ?_
  rintro e w2 ⟨rfl, hc2⟩
  have HC2 := Lib.hid (hc.trans hc2 (by simp)); clear hc2 hc
  go_wp2_with fail
  go_ret3
  exact ⟨rfl, HC2.out⟩
set_option maxRecDepth 100000 in
set_option maxHeartbeats 2000000 in
theorem program23_none_5 (h : NoGr w (.pointer p)) (kind : Nat) (hk : (kind : Int) % 13 = 5) (xa ya : Option Addr) (xc yc : Nat) :
    Calls Tryz.prog 40 #[.pointer p, .agg #[.int .u8 kind, .slice none 0 0, .slice none 0 0, .int .i64 3], .slice xa 1 xc, .slice ya 1 yc] w fun e w' => e = .returned (.tuple #[.slice none 0 0, .int .i64 0, .int .i64 1]) ∧ Ch [] w w' := by
  have H := Lib.hid h; clear h
  go_enter Tryz.func40, Tryz.ntmps40
  go_wp2_with fail
  refine calls_named fun W hW => ?_
  have hc : Ch [] w W := by rw [hW]; exact (Ch.refl _ _).alloc _
  clear hW
  refine (sAdd_none (H.out.ch hc) xa ya 1 xc 1 yc).mono ?_
  rintro e w2 ⟨rfl, hc2⟩
  have HC2 := Lib.hid (hc.trans hc2 (by simp)); clear hc2 hc
  go_wp2_with fail
  go_ret3
  exact ⟨rfl, HC2.out⟩
set_option maxRecDepth 100000 in
set_option maxHeartbeats 2000000 in
theorem program23_none_6 (h : NoGr w (.pointer p)) (kind : Nat) (hk : (kind : Int) % 13 = 6) (xa ya : Option Addr) (xc yc : Nat) :
    Calls Tryz.prog 40 #[.pointer p, .agg #[.int .u8 kind, .slice none 0 0, .slice none 0 0, .int .i64 3], .slice xa 1 xc, .slice ya 1 yc] w fun e w' => e = .returned (.tuple #[.slice none 0 0, .int .i64 0, .int .i64 1]) ∧ Ch [] w w' := by
  have H := Lib.hid h; clear h
  go_enter Tryz.func40, Tryz.ntmps40
  go_wp2_with fail
  refine calls_named fun W hW => ?_
  have hc : Ch [] w W := by rw [hW]; exact (Ch.refl _ _).alloc _
  clear hW
  refine (sSub_none (H.out.ch hc) xa ya 1 xc 1 yc).mono ?_
  rintro e w2 ⟨rfl, hc2⟩
  have HC2 := Lib.hid (hc.trans hc2 (by simp)); clear hc2 hc
  go_wp2_with fail
  go_ret3
  exact ⟨rfl, HC2.out⟩
set_option maxRecDepth 100000 in
set_option maxHeartbeats 2000000 in
theorem program23_none_7 (h : NoGr w (.pointer p)) (kind : Nat) (hk : (kind : Int) % 13 = 7) (xa ya : Option Addr) (xc yc : Nat) :
    Calls Tryz.prog 40 #[.pointer p, .agg #[.int .u8 kind, .slice none 0 0, .slice none 0 0, .int .i64 3], .slice xa 1 xc, .slice ya 1 yc] w fun e w' => e = .returned (.tuple #[.slice none 0 0, .int .i64 0, .int .i64 1]) ∧ Ch [] w w' := by
  have H := Lib.hid h; clear h
  go_enter Tryz.func40, Tryz.ntmps40
  go_wp2_with fail
  refine calls_named fun W hW => ?_
  have hc : Ch [] w W := by rw [hW]; exact (Ch.refl _ _).alloc _
  clear hW
  refine (sEq_none (H.out.ch hc) xa ya 1 xc 1 yc).mono ?_
  rintro e w2 ⟨rfl, hc2⟩
  have HC2 := Lib.hid (hc.trans hc2 (by simp)); clear hc2 hc
  go_wp2_with fail
  go_ret3
  exact ⟨rfl, HC2.out⟩
set_option maxRecDepth 100000 in
set_option maxHeartbeats 2000000 in
theorem program23_none_8 (h : NoGr w (.pointer p)) (kind : Nat) (hk : (kind : Int) % 13 = 8) (xa ya : Option Addr) (xc yc : Nat) :
    Calls Tryz.prog 40 #[.pointer p, .agg #[.int .u8 kind, .slice none 0 0, .slice none 0 0, .int .i64 3], .slice xa 1 xc, .slice ya 1 yc] w fun e w' => e = .returned (.tuple #[.slice none 0 0, .int .i64 0, .int .i64 1]) ∧ Ch [] w w' := by
  have H := Lib.hid h; clear h
  go_enter Tryz.func40, Tryz.ntmps40
  go_wp2_with fail
  refine calls_named fun W hW => ?_
  have hc : Ch [] w W := by rw [hW]; exact (Ch.refl _ _).alloc _
  clear hW
  refine (sNe_none (H.out.ch hc) xa ya 1 xc 1 yc).mono ?_
  rintro e w2 ⟨rfl, hc2⟩
  have HC2 := Lib.hid (hc.trans hc2 (by simp)); clear hc2 hc
  go_wp2_with fail
  go_ret3
  exact ⟨rfl, HC2.out⟩
set_option maxRecDepth 100000 in
set_option maxHeartbeats 2000000 in
theorem program23_none_9 (h : NoGr w (.pointer p)) (kind : Nat) (hk : (kind : Int) % 13 = 9) (xa ya : Option Addr) (xc yc : Nat) :
    Calls Tryz.prog 40 #[.pointer p, .agg #[.int .u8 kind, .slice none 0 0, .slice none 0 0, .int .i64 3], .slice xa 1 xc, .slice ya 1 yc] w fun e w' => e = .returned (.tuple #[.slice none 0 0, .int .i64 0, .int .i64 1]) ∧ Ch [] w w' := by
  have H := Lib.hid h; clear h
  go_enter Tryz.func40, Tryz.ntmps40
  go_wp2_with fail
  refine calls_named fun W hW => ?_
  have hc : Ch [] w W := by rw [hW]; exact (Ch.refl _ _).alloc _
  clear hW
  refine (sLt_none (H.out.ch hc) xa ya 1 xc 1 yc).mono ?_
  rintro e w2 ⟨rfl, hc2⟩
  have HC2 := Lib.hid (hc.trans hc2 (by simp)); clear hc2 hc
  go_wp2_with fail
  go_ret3
  exact ⟨rfl, HC2.out⟩
set_option maxRecDepth 100000 in
set_option maxHeartbeats 2000000 in
theorem program23_none_10 (h : NoGr w (.pointer p)) (kind : Nat) (hk : (kind : Int) % 13 = 10) (xa ya : Option Addr) (xc yc : Nat) :
    Calls Tryz.prog 40 #[.pointer p, .agg #[.int .u8 kind, .slice none 0 0, .slice none 0 0, .int .i64 3], .slice xa 1 xc, .slice ya 1 yc] w fun e w' => e = .returned (.tuple #[.slice none 0 0, .int .i64 0, .int .i64 1]) ∧ Ch [] w w' := by
  have H := Lib.hid h; clear h
  go_enter Tryz.func40, Tryz.ntmps40
  go_wp2_with fail
  refine calls_named fun W hW => ?_
  have hc : Ch [] w W := by rw [hW]; exact (Ch.refl _ _).alloc _
  clear hW
  refine (sLe_none (H.out.ch hc) xa ya 1 xc 1 yc).mono ?_
  rintro e w2 ⟨rfl, hc2⟩
  have HC2 := Lib.hid (hc.trans hc2 (by simp)); clear hc2 hc
  go_wp2_with fail
  go_ret3
  exact ⟨rfl, HC2.out⟩
set_option maxRecDepth 100000 in
set_option maxHeartbeats 2000000 in
theorem program23_none_11 (h : NoGr w (.pointer p)) (kind : Nat) (hk : (kind : Int) % 13 = 11) (xa ya : Option Addr) (xc yc : Nat) :
    Calls Tryz.prog 40 #[.pointer p, .agg #[.int .u8 kind, .slice none 0 0, .slice none 0 0, .int .i64 3], .slice xa 1 xc, .slice ya 1 yc] w fun e w' => e = .returned (.tuple #[.slice none 0 0, .int .i64 0, .int .i64 1]) ∧ Ch [] w w' := by
  have H := Lib.hid h; clear h
  go_enter Tryz.func40, Tryz.ntmps40
  go_wp2_with fail
  refine calls_named fun W hW => ?_
  have hc : Ch [] w W := by rw [hW]; exact (Ch.refl _ _).alloc _
  clear hW
  refine (sAny_none (H.out.ch hc) xa 1 xc).mono ?_
  rintro e w2 ⟨rfl, hc2⟩
  have HC2 := Lib.hid (hc.trans hc2 (by simp)); clear hc2 hc
  go_wp2_with fail
  go_ret3
  exact ⟨rfl, HC2.out⟩
set_option maxRecDepth 100000 in
set_option maxHeartbeats 2000000 in
theorem program23_none_12 (h : NoGr w (.pointer p)) (kind : Nat) (hk : (kind : Int) % 13 = 12) (xa ya : Option Addr) (xc yc : Nat) :
    Calls Tryz.prog 40 #[.pointer p, .agg #[.int .u8 kind, .slice none 0 0, .slice none 0 0, .int .i64 3], .slice xa 1 xc, .slice ya 1 yc] w fun e w' => e = .returned (.tuple #[.slice none 0 0, .int .i64 0, .int .i64 1]) ∧ Ch [] w w' := by
  have H := Lib.hid h; clear h
  go_enter Tryz.func40, Tryz.ntmps40
  go_wp2_with fail
  refine calls_named fun W hW => ?_
  have hc : Ch [] w W := by rw [hW]; exact (Ch.refl _ _).alloc _
  clear hW
  refine (sInput_none (H.out.ch hc) 3).mono ?_
  rintro e w2 ⟨rfl, hc2⟩
  have HC2 := Lib.hid (hc.trans hc2 (by simp)); clear hc2 hc
  go_wp2_with fail
  go_ret3
  exact ⟨rfl, HC2.out⟩
theorem program23_none (h : NoGr w (.pointer p)) (kind : Nat) (hk : kind < 13) (xa ya : Option Addr) (xc yc : Nat) :
    Calls Tryz.prog 40 #[.pointer p, .agg #[.int .u8 kind, .slice none 0 0, .slice none 0 0, .int .i64 3], .slice xa 1 xc, .slice ya 1 yc] w fun e w' => e = .returned (.tuple #[.slice none 0 0, .int .i64 0, .int .i64 1]) ∧ Ch [] w w' := by
  obtain ⟨k, hk2⟩ : ∃ k, kind = k := ⟨_, rfl⟩
  have hki : (kind : Int) % 13 = k := by omega
  rw [hk2] at hk
  match k, hk, hki with
  | 0, _, hki => exact program23_none_0 h kind hki xa ya xc yc
  | 1, _, hki => exact program23_none_1 h kind hki xa ya xc yc
  | 2, _, hki => exact program23_none_2 h kind hki xa ya xc yc
  | 3, _, hki => exact program23_none_3 h kind hki xa ya xc yc
  | 4, _, hki => exact program23_none_4 h kind hki xa ya xc yc
  | 5, _, hki => exact program23_none_5 h kind hki xa ya xc yc
  | 6, _, hki => exact program23_none_6 h kind hki xa ya xc yc
  | 7, _, hki => exact program23_none_7 h kind hki xa ya xc yc
  | 8, _, hki => exact program23_none_8 h kind hki xa ya xc yc
  | 9, _, hki => exact program23_none_9 h kind hki xa ya xc yc
  | 10, _, hki => exact program23_none_10 h kind hki xa ya xc yc
  | 11, _, hki => exact program23_none_11 h kind hki xa ya xc yc
  | 12, _, hki => exact program23_none_12 h kind hki xa ya xc yc
set_option maxRecDepth 100000 in
set_option maxHeartbeats 4000000 in
theorem none23_is : Calls Tryz.prog 9 #[] w fun e w' => e = .returned (.bool true) ∧ Ch [] w w' := by
  go_enter Tryz.func9, Tryz.ntmps9
  go_wp2_with fail
  refine wp_alw ?_
  intro W2 hW2
  have hbg : blk W2 w.heap.size [.int .i64 0, .slice none 0 0, .map none, .slice none 0 0] := by rw [hW2]; exact (blk.new' _ _ (by simp)).alloc _
  have hbp : blk W2 (w.heap.size + 1) [.pointer none, .pointer (some ⟨w.heap.size, 0, none⟩)] := by rw [hW2]; exact blk.new' _ _ (by simp)
  have hc2 : Ch [] w W2 := by rw [hW2]; exact ((Ch.refl _ _).alloc _).alloc _
  have HN1 := Lib.hid (nogr_nil W2)
  have HN2 := Lib.hid (nogr_zero hbg)
  clear hW2 hbg
  have HBP := Lib.hid hbp; clear hbp
  have HC := Lib.hid hc2; clear hc2
  go_loopw [11] (fun i wq => ∃ k : Nat, k ≤ 2 ∧ i = .int .i64 k ∧ Ch [] W2 wq) (fun i _ => 2 - (intOf i).toNat)
  case atStart => exact ⟨0, by omega, rfl, Ch.refl _ _⟩
  case round =>
    obtain ⟨q, hq, rfl, hc⟩ := hrel
    by_cases hq2 : q < 2
    · obtain ⟨v, hv, hn⟩ : ∃ v, [Value.pointer none, Value.pointer (some ⟨w.heap.size, 0, none⟩)][q]? = some (.pointer v) ∧ NoGr W2 (.pointer v) := by
        rcases (by omega : q = 0 ∨ q = 1) with e | e
        · subst e; exact ⟨_, rfl, HN1.out⟩
        · subst e; exact ⟨_, rfl, HN2.out⟩
      have c0 := (HBP.out.ch hc (by simp)).cell hv
      have HN := Lib.hid hn; clear hn hv
      have dq : decide ((q : Int) < 2) = true := decide_eq_true (by omega)
      have HCW := Lib.hid hc; clear hc
      go_wp2_with fail
      go_loopw [15] (fun i wq => ∃ j : Nat, j ≤ 13 ∧ i = .int .u8 j ∧ Ch [] W2 wq) (fun i _ => 13 - (intOf i).toNat)
      case atStart => exact ⟨0, by omega, rfl, HCW.out⟩
      case round =>
        obtain ⟨j, hj, rfl, hc⟩ := hrel
        clear HCW c0
        by_cases hj2 : j < 13
        · have HCW := Lib.hid hc; clear hc
          go_wp2_with fail
          refine calls_named fun W hW => ?_
          have hc : Ch [] wr W := by rw [hW]; exact ((Ch.refl _ _).alloc _).alloc _
          clear hW
          have hcw := HCW.out.trans hc (by simp)
          refine (program23_none (HN.out.ch hcw) j hj2 _ _ 1 1).mono ?_
          rintro e w3 ⟨rfl, hc3⟩
          have HC3 := Lib.hid (hcw.trans hc3 (by simp)); clear hc3 hc hcw
          go_wp2_with fail
          go_roundw
          case rel => first | exact ⟨j + 1, by omega, by go_num, HC3.out⟩ | ((repeat apply Exists.intro); exact ⟨⟨j + 1, by omega, by go_num, HC3.out⟩, rfl⟩)
          case measure => simp [intOf]; omega
        · have HCW := Lib.hid hc; clear hc
          go_wp2_with fail
          go_roundw
          case rel => exact ⟨q + 1, by omega, by go_num, HCW.out⟩
          case measure => simp [intOf]; omega
    · have HCW := Lib.hid hc; clear hc
      go_wp2_with fail
      go_ret
      exact ⟨rfl, HC.out.trans HCW.out (by simp)⟩
end
end Go.Proofs.YtchledddgmbndaaGreat
namespace Go.Aig
theorem bitsVal_drop {l : List Bool} {j : Nat} {b : Bool} (h : l[j]? = some b) : bitsVal (l.drop j) = b.toNat + 2 * bitsVal (l.drop (j + 1)) := by
  have hlt := (List.getElem?_eq_some_iff.1 h).1
  rw [List.drop_eq_getElem_cons hlt]
  have : l[j] = b := (List.getElem?_eq_some_iff.1 h).2
  rw [this]; rfl
theorem bitsVal_drop_lt {l : List Bool} (h : l.length ≤ 16) (j : Nat) : bitsVal (l.drop j) < 65536 := by
  have h1 := bitsVal_lt (l.drop j)
  have h2 : (2 : Nat) ^ (l.drop j).length ≤ 2 ^ 16 := Nat.pow_le_pow_right (by omega) (by rw [List.length_drop]; omega)
  omega
end Go.Aig
namespace Go.Proofs.YtchledddgmbndaaGreat
open Go.RowKit Go.Mem Go.Aig
theorem rowCap {w : World} {e : TypeId} {a : Option Addr} {m n c : Nat} {xs : List Value} (h : row w e 1 (.slice a m c) n xs) : m ≤ c := by
  rcases h.2 with ⟨e, _⟩ | ⟨_, _, _, e, _, _, hle, _⟩
  · cases e; omega
  · cases e; exact hle
theorem WNew.parts {w w' : World} {v : Value} {xs : List Value} {n : Nat} (h : WNew w v xs w') (hn : xs.length = n) : ∃ a c, v = .slice a n c ∧ row w' 52 1 (.slice a n c) n xs ∧ (∀ q ∈ (Value.slice a n c).ownBlock.toList, w.heap.size ≤ q) ∧ Ch [] w w' := by
  subst hn
  obtain ⟨h1, h2, h3⟩ := h
  obtain ⟨a, c, rfl⟩ := row.shape h1
  exact ⟨a, c, rfl, h1, h2, h3⟩
section
variable {w : World}
set_option maxRecDepth 100000 in
set_option maxHeartbeats 8000000 in
theorem words23_ffT {x : Nat} (hx : x < 4294967296) {width : Int} (hr : rightW width = false) {la va : Option Addr} {l : List Int} {vs : List Bool} (lc vc : Nat) (hS : Sl w la l) (hV : Sb w va vs) (hl : l.length ≤ 30) (hm : vs.length ≤ 30) (hbd : ∀ r ∈ l, -9223372036854775808 ≤ r ∧ r ≤ 9223372036854775807)  (hv1 : 1 ≤ l.length) (hv2 : l.length ≤ 16) (hv3 : vs.length = l.length) :
    Calls Tryz.prog 8 #[.int .u32 x, .int .i64 width, .slice la l.length lc, .slice va vs.length vc] w fun e w' => e = .returned (.bool true) ∧ Ch [] w w' := by
  have HRf := Refs23_is (w := w) l.length lc rfl hS (by omega)
  have HS := Lib.hid hS; clear hS
  have HV := Lib.hid hV; clear hV
  have HBD := Lib.hid hbd; clear hbd
  have hbq : ((vs.length : Int) == (l.length : Int)) = true := beqI (by omega)
  have HV3 := Lib.hid hv3; clear hv3
  go_enter Tryz.func8, Tryz.ntmps8
  go_wp2_with fail
  refine HRf.mono ?_
  rintro e w1 ⟨vo, rfl, hro, hlo, hc1⟩
  obtain ⟨oa, oc, rfl⟩ := row.shape hro
  have HCB := Clbool_is (w := w1) vs.length vc rfl (HV.out.ch hc1 (by simp)) (by omega)
  go_wp2_with fail
  refine HCB.mono ?_
  rintro e w2 ⟨vl, rfl, hrl, hll, hc2⟩
  obtain ⟨ta, tc, rfl⟩ := row.shape hrl
  have HCo := sConst_is (w := w2) x hx width
  rw [hr] at HCo
  simp only [if_true, Bool.false_eq_true, if_false, Int.toNat_natCast] at HCo
  go_wp2_with fail
  refine HCo.mono ?_
  rintro e w3 ⟨vcc, rfl, hnc⟩
  obtain ⟨ca, cc, rfl, hrc, hlc, hc3⟩ := hnc.parts (n := 0) (by simp [refsCells, constL])
  have hro3 := (hro.ch hc2 (by simp)).ch hc3 (by simp)
  have hwv : WVok w3 ⟨oa, l, oc⟩ := ⟨Sl.of_ints hro3 (by omega), HBD.out, by simp only; omega⟩
  have hcap : l.length ≤ oc := rowCap hro3
  have HCa := sCast_is hwv hcap width
  simp only [hr, WV.val, Bool.and_self, Bool.false_and, Bool.and_false, if_true, Bool.false_eq_true, if_false, Int.toNat_natCast] at HCa
  go_wp2_with fail
  refine HCa.mono ?_
  rintro e w4 ⟨vd, rfl, hnd⟩
  obtain ⟨da, dc, rfl, hrd, hld, hc4⟩ := hnd.parts (n := 0) (by simp [intCells, castL])
  have hrl4 := (hrl.ch hc3 (by simp)).ch hc4 (by simp)
  have HVa := sValue_is (w := w4) (x := ⟨oa, l, oc⟩) (by simp only; omega) (a := ta) (l := vs) tc (by omega) (row.sv hrl4 rfl (by omega))
  simp only [WV.val] at HVa
  rw [if_pos ⟨by have := HV3.out; omega, by have := HV3.out; omega, HV3.out⟩, if_pos ⟨by have := HV3.out; omega, by have := HV3.out; omega, HV3.out⟩] at HVa
  go_wp2_with fail
  refine HVa.mono ?_
  rintro e w5 ⟨rfl, rfl⟩
  have HRi := r23Right_is (w := w4) width
  rw [hr] at HRi
  go_wp2_with fail
  refine HRi.mono ?_
  rintro e w5 ⟨rfl, rfl⟩
  have hro4 := hro3.ch hc4 (by simp)
  have hrc4 := hrc.ch hc4 (by simp)
  have hcw4 := ((hc1.trans hc2 (by simp)).trans hc3 (by simp)).trans hc4 (by simp)
  have hcw3 := (hc1.trans hc2 (by simp)).trans hc3 (by simp)
  have hown : ∀ k, (Value.slice oa l.length oc).ownBlock = some k ∨ (Value.slice ta vs.length tc).ownBlock = some k → k < w3.heap.size := fun k hk => by
    rcases hk with hk | hk
    · exact (hro3.lt k hk).2
    · exact ((hrl.ch hc3 (by simp)).lt k hk).2
  have HRO := Lib.hid hro4; clear hro hro3 hro4
  have HRL := Lib.hid hrl4; clear hrl hrl4
  have HRC := Lib.hid hrc4; clear hrc hrc4
  have HRD := Lib.hid hrd; clear hrd
  have HLD := Lib.hid hld; clear hld
  have HCW := Lib.hid hcw4; clear hcw4
  have HCW3 := Lib.hid hcw3; clear hcw3
  have HOW := Lib.hid hown
  clear hown HRf HCB HCo HCa HVa HRi hnc hnd hc1 hc2 hc3 hc4 hlo hll hlc hwv
  go_wp2_with fail
  go_loopw [89] (fun i wr => ∃ k : Nat, k ≤ 3 ∧ i = .int .i64 k ∧ wr = w4.alloc (.cells #[.int .i64 230, .int .i64 230, .int .i64 0] 36)) (fun i _ => 3 - (intOf i).toNat)
  case atStart => exact ⟨0, by omega, rfl, rfl⟩
  case round =>
    obtain ⟨k, hk, rfl, rfl⟩ := hrel
    by_cases hlt : k < 3
    · obtain ⟨ev, hev, hcell⟩ : ∃ ev : Int, (ev = 0 ∨ ev = 230) ∧ (w4.alloc (.cells #[.int .i64 230, .int .i64 230, .int .i64 0] 36)).cell? ⟨w4.heap.size, k, none⟩ = some (.int .i64 ev) := by
        have hb : blk (w4.alloc (.cells #[.int .i64 230, .int .i64 230, .int .i64 0] 36)) w4.heap.size [.int .i64 230, .int .i64 230, .int .i64 0] := blk.new' _ _ rfl
        rcases (show k = 0 ∨ k = 1 ∨ k = 2 by omega) with rfl | rfl | rfl <;> exact ⟨_, by simp, hb.cell rfl⟩
      rcases hev with rfl | rfl
      · go_wp2_with fail
        go_roundw
        case rel => exact ⟨k + 1, by omega, by go_num, trivial⟩
        case measure => simp [intOf]; omega
      · go_wp2_with fail
        go_roundw
        case rel => exact ⟨k + 1, by omega, by go_num, trivial⟩
        case measure => simp [intOf]; omega
    · obtain ⟨W5, hW5⟩ : ∃ W5, W5 = w4.alloc (.cells #[.int .i64 230, .int .i64 230, .int .i64 0] 36) := ⟨_, rfl⟩
      rw [← hW5]
      have hc5 := alw_ch hW5
      clear hW5
      have HRO5 := Lib.hid (HRO.out.ch hc5 (by simp))
      have HRL5 := Lib.hid (HRL.out.ch hc5 (by simp))
      have HRC5 := Lib.hid (HRC.out.ch hc5 (by simp))
      have HRD5 := Lib.hid (HRD.out.ch hc5 (by simp))
      have HCW5 := Lib.hid (HCW.out.trans hc5 (by simp))
      have HZ5 := Lib.hid hc5.size
      clear HRO HRL HRC HRD hc5
      have HC := Lib.hid (Ch.refl [] W5)
      have HRO6 := Lib.hid (HRO5.out.ch HC.out (by simp))
      have HRL6 := Lib.hid (HRL5.out.ch HC.out (by simp))
      have HRD6 := Lib.hid (HRD5.out.ch HC.out (by simp))
      have HCW6 := Lib.hid (HCW5.out.trans HC.out (by simp))
      clear HRO5 HRL5 HRC5 HRD5
      obtain ⟨W6, hW6⟩ : ∃ W6, W6 = W5 := ⟨_, rfl⟩
      rw [← hW6] at HRO6 HRL6 HRD6 HCW6 HC
      try rw [← hW6]
      clear hW6
      go_wp2_with fail
      go_loopw [21, 22] (fun x i wr => ∃ j : Nat, j ≤ vs.length ∧ i = .int .i64 ((j : Int) - 1) ∧ W6 = wr ∧ x = .int .u32 (bitsVal (vs.drop j))) (fun _ i _ => (intOf i + 1).toNat)
      case atStart => exact ⟨vs.length, by omega, by go_num, rfl, by simp [bitsVal]⟩
      case round =>
        obtain ⟨j, hj, rfl, rfl, rfl⟩ := hrel
        cases j with
        | zero =>
          have hd0 : bitsVal (vs.drop 0) = bitsVal vs := rfl
          rw [hd0]
          clear hd0
          go_wp2_with fail
          go_loopw [162] (fun i wr => ∃ k : Nat, k ≤ 0 ∧ i = .int .i64 k ∧ Ch (Value.slice da 0 dc).ownBlock.toList W6 wr ∧ ∀ j, j < 0 → ∃ (b : Nat) (ys : List Value), da = some ⟨b, 0, none⟩ ∧ blk wr b ys ∧ 0 ≤ ys.length) (fun i _ => 0 - (intOf i).toNat)
          case atStart => exact ⟨0, by omega, rfl, Ch.refl _ _, rowBlk HRD6.out⟩
          case round =>
            obtain ⟨k, hk, rfl, hc, hbb⟩ := hrel
            by_cases hlt : k < 0
            · exact absurd hlt (by omega)
            · have hld : ∀ q ∈ (Value.slice da 0 dc).ownBlock.toList, w3.heap.size ≤ q := HLD.out
              have hz3 := HCW3.out.size
              have hcw7 : Ch [] w wr := HCW6.out.trans hc (fun q hq => .inr (by have := hld q hq; omega))
              have hro7 := HRO6.out.ch hc (fun k hk hk2 => by have := HOW.out k (.inl hk); have := hld k hk2; omega)
              have hrl7 := HRL6.out.ch hc (fun k hk hk2 => by have := HOW.out k (.inr hk); have := hld k hk2; omega)
              have hkd : k = 0 := by omega
              have HCW7 := Lib.hid hcw7; clear hcw7 hc hbb
              have HRO7 := Lib.hid hro7; clear hro7
              have HRL7 := Lib.hid hrl7; clear hrl7
              clear HRO6 HRL6 HRD6 HCW6
              have HRf := Refs23_is (w := wr) l.length lc rfl (HS.out.ch HCW7.out (by simp)) (by omega)
              go_wp2_with fail
              refine HRf.mono ?_
              rintro e W8 ⟨vo, rfl, hrp, hlp, hc8⟩
              obtain ⟨pa, pc, rfl⟩ := row.shape hrp
              have HE := Eqref_is (w := W8) oc pc (xs := l) (ys := l) (Sl.of_ints (HRO7.out.ch hc8 (by simp)) (by omega)) (Sl.of_ints hrp (by omega))
              simp only [decide_true] at HE
              clear HRf hrp hlp
              have HC8 := Lib.hid hc8; clear hc8
              go_wp2_with fail
              refine HE.mono ?_
              rintro e W9 ⟨rfl, hc9⟩
              have hc79 := HC8.out.trans hc9 (by simp)
              have HE2 := Eqbool_is (w := W9) tc vc (xs := vs) (ys := vs) (row.sv (HRL7.out.ch hc79 (by simp)) rfl (by omega)) (HV.out.ch (HCW7.out.trans hc79 (by simp)) (by simp))
              simp only [decide_true] at HE2
              have HC79 := Lib.hid hc79; clear hc79 hc9 HE
              go_wp2_with fail
              refine HE2.mono ?_
              rintro e W10 ⟨rfl, hc10⟩
              have HCF := Lib.hid ((HCW7.out.trans HC79.out (by simp)).trans hc10 (by simp))
              clear HE2 hc10
              go_wp2_with fail
              go_ret
              exact ⟨rfl, HCF.out⟩
        | succ j =>
          have ej : (((j + 1 : Nat) : Int) - 1) = (j : Int) := by omega
          rw [ej]
          have hd2 : decide ((0 : Int) ≤ j) = true := decide_eq_true (by omega)
          obtain ⟨b, hb⟩ : ∃ b, vs[j]? = some b := ⟨_, List.getElem?_eq_getElem (by omega)⟩
          obtain ⟨xb, xo, rfl, hcl⟩ := HV.out.cells j (.bool b) (by simp [hb])
          have c0 := (HCW6.out.cell (cell_lt hcl) (by simp)).trans hcl
          have hs := bitsVal_drop hb
          have hlt := bitsVal_drop_lt (l := vs) (by have := HV3.out; omega) (j + 1)
          generalize hX : bitsVal (vs.drop (j + 1)) = X at *
          have HSS := Lib.hid hs; clear hs hX hb hcl ej
          cases b
          · go_wp2_with fail
            go_roundw
            case rel => exact ⟨j, by omega, by go_num, trivial, by first | (rw [HSS.out]; done) | (rw [HSS.out]; go_num)⟩
            case measure => simp [intOf] <;> omega
          · go_wp2_with fail
            go_roundw
            case rel => exact ⟨j, by omega, by go_num, trivial, by first | (rw [HSS.out]; done) | (rw [HSS.out]; go_num)⟩
            case measure => simp [intOf] <;> omega
set_option maxRecDepth 100000 in
set_option maxHeartbeats 8000000 in
theorem words23_ffF1 {x : Nat} (hx : x < 4294967296) {width : Int} (hr : rightW width = false) {la va : Option Addr} {l : List Int} {vs : List Bool} (lc vc : Nat) (hS : Sl w la l) (hV : Sb w va vs) (hl : l.length ≤ 30) (hm : vs.length ≤ 30) (hbd : ∀ r ∈ l, -9223372036854775808 ≤ r ∧ r ≤ 9223372036854775807)  (hv : l.length < 1) :
    Calls Tryz.prog 8 #[.int .u32 x, .int .i64 width, .slice la l.length lc, .slice va vs.length vc] w fun e w' => e = .returned (.bool true) ∧ Ch [] w w' := by
  have HRf := Refs23_is (w := w) l.length lc rfl hS (by omega)
  have HS := Lib.hid hS; clear hS
  have HV := Lib.hid hV; clear hV
  have HBD := Lib.hid hbd; clear hbd
  go_enter Tryz.func8, Tryz.ntmps8
  go_wp2_with fail
  refine HRf.mono ?_
  rintro e w1 ⟨vo, rfl, hro, hlo, hc1⟩
  obtain ⟨oa, oc, rfl⟩ := row.shape hro
  have HCB := Clbool_is (w := w1) vs.length vc rfl (HV.out.ch hc1 (by simp)) (by omega)
  go_wp2_with fail
  refine HCB.mono ?_
  rintro e w2 ⟨vl, rfl, hrl, hll, hc2⟩
  obtain ⟨ta, tc, rfl⟩ := row.shape hrl
  have HCo := sConst_is (w := w2) x hx width
  rw [hr] at HCo
  simp only [if_true, Bool.false_eq_true, if_false, Int.toNat_natCast] at HCo
  go_wp2_with fail
  refine HCo.mono ?_
  rintro e w3 ⟨vcc, rfl, hnc⟩
  obtain ⟨ca, cc, rfl, hrc, hlc, hc3⟩ := hnc.parts (n := 0) (by simp [refsCells, constL])
  have hro3 := (hro.ch hc2 (by simp)).ch hc3 (by simp)
  have hwv : WVok w3 ⟨oa, l, oc⟩ := ⟨Sl.of_ints hro3 (by omega), HBD.out, by simp only; omega⟩
  have hcap : l.length ≤ oc := rowCap hro3
  have HCa := sCast_is hwv hcap width
  simp only [hr, WV.val, Bool.and_self, Bool.false_and, Bool.and_false, if_true, Bool.false_eq_true, if_false, Int.toNat_natCast] at HCa
  go_wp2_with fail
  refine HCa.mono ?_
  rintro e w4 ⟨vd, rfl, hnd⟩
  obtain ⟨da, dc, rfl, hrd, hld, hc4⟩ := hnd.parts (n := 0) (by simp [intCells, castL])
  have hrl4 := (hrl.ch hc3 (by simp)).ch hc4 (by simp)
  have HVa := sValue_is (w := w4) (x := ⟨oa, l, oc⟩) (by simp only; omega) (a := ta) (l := vs) tc (by omega) (row.sv hrl4 rfl (by omega))
  simp only [WV.val] at HVa
  rw [if_neg (by omega), if_neg (by omega)] at HVa
  go_wp2_with fail
  refine HVa.mono ?_
  rintro e w5 ⟨rfl, rfl⟩
  have HRi := r23Right_is (w := w4) width
  rw [hr] at HRi
  go_wp2_with fail
  refine HRi.mono ?_
  rintro e w5 ⟨rfl, rfl⟩
  have hro4 := hro3.ch hc4 (by simp)
  have hrc4 := hrc.ch hc4 (by simp)
  have hcw4 := ((hc1.trans hc2 (by simp)).trans hc3 (by simp)).trans hc4 (by simp)
  have hcw3 := (hc1.trans hc2 (by simp)).trans hc3 (by simp)
  have hown : ∀ k, (Value.slice oa l.length oc).ownBlock = some k ∨ (Value.slice ta vs.length tc).ownBlock = some k → k < w3.heap.size := fun k hk => by
    rcases hk with hk | hk
    · exact (hro3.lt k hk).2
    · exact ((hrl.ch hc3 (by simp)).lt k hk).2
  have HRO := Lib.hid hro4; clear hro hro3 hro4
  have HRL := Lib.hid hrl4; clear hrl hrl4
  have HRC := Lib.hid hrc4; clear hrc hrc4
  have HRD := Lib.hid hrd; clear hrd
  have HLD := Lib.hid hld; clear hld
  have HCW := Lib.hid hcw4; clear hcw4
  have HCW3 := Lib.hid hcw3; clear hcw3
  have HOW := Lib.hid hown
  clear hown HRf HCB HCo HCa HVa HRi hnc hnd hc1 hc2 hc3 hc4 hlo hll hlc hwv
  go_wp2_with fail
  go_loopw [89] (fun i wr => ∃ k : Nat, k ≤ 3 ∧ i = .int .i64 k ∧ wr = w4.alloc (.cells #[.int .i64 230, .int .i64 230, .int .i64 230] 36)) (fun i _ => 3 - (intOf i).toNat)
  case atStart => exact ⟨0, by omega, rfl, rfl⟩
  case round =>
    obtain ⟨k, hk, rfl, rfl⟩ := hrel
    by_cases hlt : k < 3
    · obtain ⟨ev, hev, hcell⟩ : ∃ ev : Int, (ev = 0 ∨ ev = 230) ∧ (w4.alloc (.cells #[.int .i64 230, .int .i64 230, .int .i64 230] 36)).cell? ⟨w4.heap.size, k, none⟩ = some (.int .i64 ev) := by
        have hb : blk (w4.alloc (.cells #[.int .i64 230, .int .i64 230, .int .i64 230] 36)) w4.heap.size [.int .i64 230, .int .i64 230, .int .i64 230] := blk.new' _ _ rfl
        rcases (show k = 0 ∨ k = 1 ∨ k = 2 by omega) with rfl | rfl | rfl <;> exact ⟨_, by simp, hb.cell rfl⟩
      rcases hev with rfl | rfl
      · go_wp2_with fail
        go_roundw
        case rel => exact ⟨k + 1, by omega, by go_num, trivial⟩
        case measure => simp [intOf]; omega
      · go_wp2_with fail
        go_roundw
        case rel => exact ⟨k + 1, by omega, by go_num, trivial⟩
        case measure => simp [intOf]; omega
    · obtain ⟨W5, hW5⟩ : ∃ W5, W5 = w4.alloc (.cells #[.int .i64 230, .int .i64 230, .int .i64 230] 36) := ⟨_, rfl⟩
      rw [← hW5]
      have hc5 := alw_ch hW5
      clear hW5
      have HRO5 := Lib.hid (HRO.out.ch hc5 (by simp))
      have HRL5 := Lib.hid (HRL.out.ch hc5 (by simp))
      have HRC5 := Lib.hid (HRC.out.ch hc5 (by simp))
      have HRD5 := Lib.hid (HRD.out.ch hc5 (by simp))
      have HCW5 := Lib.hid (HCW.out.trans hc5 (by simp))
      have HZ5 := Lib.hid hc5.size
      clear HRO HRL HRC HRD hc5
      have HC := Lib.hid (Ch.refl [] W5)
      have HRO6 := Lib.hid (HRO5.out.ch HC.out (by simp))
      have HRL6 := Lib.hid (HRL5.out.ch HC.out (by simp))
      have HRD6 := Lib.hid (HRD5.out.ch HC.out (by simp))
      have HCW6 := Lib.hid (HCW5.out.trans HC.out (by simp))
      clear HRO5 HRL5 HRC5 HRD5
      obtain ⟨W6, hW6⟩ : ∃ W6, W6 = W5 := ⟨_, rfl⟩
      rw [← hW6] at HRO6 HRL6 HRD6 HCW6 HC
      try rw [← hW6]
      clear hW6
      go_wp2_with fail
      go_loopw [21, 22] (fun x i wr => i = .int .i64 ((vs.length : Int) - 1) ∧ W6 = wr ∧ x = .int .u32 0) (fun _ i _ => 0)
      case atStart => exact ⟨rfl, rfl, rfl⟩
      case round =>
        obtain ⟨rfl, rfl, rfl⟩ := hrel
        by_cases h0 : vs.length < 1
        · have hd0 : decide ((0 : Int) ≤ (vs.length : Int) - 1) = false := decide_eq_false (by omega)
          go_wp2_with fail
          go_loopw [162] (fun i wr => ∃ k : Nat, k ≤ 0 ∧ i = .int .i64 k ∧ Ch (Value.slice da 0 dc).ownBlock.toList W6 wr ∧ ∀ j, j < 0 → ∃ (b : Nat) (ys : List Value), da = some ⟨b, 0, none⟩ ∧ blk wr b ys ∧ 0 ≤ ys.length) (fun i _ => 0 - (intOf i).toNat)
          case atStart => exact ⟨0, by omega, rfl, Ch.refl _ _, rowBlk HRD6.out⟩
          case round =>
            obtain ⟨k, hk, rfl, hc, hbb⟩ := hrel
            by_cases hlt : k < 0
            · exact absurd hlt (by omega)
            · have hld : ∀ q ∈ (Value.slice da 0 dc).ownBlock.toList, w3.heap.size ≤ q := HLD.out
              have hz3 := HCW3.out.size
              have hcw7 : Ch [] w wr := HCW6.out.trans hc (fun q hq => .inr (by have := hld q hq; omega))
              have hro7 := HRO6.out.ch hc (fun k hk hk2 => by have := HOW.out k (.inl hk); have := hld k hk2; omega)
              have hrl7 := HRL6.out.ch hc (fun k hk hk2 => by have := HOW.out k (.inr hk); have := hld k hk2; omega)
              have hkd : k = 0 := by omega
              have HCW7 := Lib.hid hcw7; clear hcw7 hc hbb
              have HRO7 := Lib.hid hro7; clear hro7
              have HRL7 := Lib.hid hrl7; clear hrl7
              clear HRO6 HRL6 HRD6 HCW6
              have HRf := Refs23_is (w := wr) l.length lc rfl (HS.out.ch HCW7.out (by simp)) (by omega)
              go_wp2_with fail
              refine HRf.mono ?_
              rintro e W8 ⟨vo, rfl, hrp, hlp, hc8⟩
              obtain ⟨pa, pc, rfl⟩ := row.shape hrp
              have HE := Eqref_is (w := W8) oc pc (xs := l) (ys := l) (Sl.of_ints (HRO7.out.ch hc8 (by simp)) (by omega)) (Sl.of_ints hrp (by omega))
              simp only [decide_true] at HE
              clear HRf hrp hlp
              have HC8 := Lib.hid hc8; clear hc8
              go_wp2_with fail
              refine HE.mono ?_
              rintro e W9 ⟨rfl, hc9⟩
              have hc79 := HC8.out.trans hc9 (by simp)
              have HE2 := Eqbool_is (w := W9) tc vc (xs := vs) (ys := vs) (row.sv (HRL7.out.ch hc79 (by simp)) rfl (by omega)) (HV.out.ch (HCW7.out.trans hc79 (by simp)) (by simp))
              simp only [decide_true] at HE2
              have HC79 := Lib.hid hc79; clear hc79 hc9 HE
              go_wp2_with fail
              refine HE2.mono ?_
              rintro e W10 ⟨rfl, hc10⟩
              have HCF := Lib.hid ((HCW7.out.trans HC79.out (by simp)).trans hc10 (by simp))
              clear HE2 hc10
              go_wp2_with fail
              go_ret
              exact ⟨rfl, HCF.out⟩
        · have hd0 : decide ((0 : Int) ≤ (vs.length : Int) - 1) = true := decide_eq_true (by omega)
          have h1 : 1 ≤ vs.length := by omega
          clear h0
          go_wp2_with fail
          go_loopw [162] (fun i wr => ∃ k : Nat, k ≤ 0 ∧ i = .int .i64 k ∧ Ch (Value.slice da 0 dc).ownBlock.toList W6 wr ∧ ∀ j, j < 0 → ∃ (b : Nat) (ys : List Value), da = some ⟨b, 0, none⟩ ∧ blk wr b ys ∧ 0 ≤ ys.length) (fun i _ => 0 - (intOf i).toNat)
          case atStart => exact ⟨0, by omega, rfl, Ch.refl _ _, rowBlk HRD6.out⟩
          case round =>
            obtain ⟨k, hk, rfl, hc, hbb⟩ := hrel
            by_cases hlt : k < 0
            · exact absurd hlt (by omega)
            · have hld : ∀ q ∈ (Value.slice da 0 dc).ownBlock.toList, w3.heap.size ≤ q := HLD.out
              have hz3 := HCW3.out.size
              have hcw7 : Ch [] w wr := HCW6.out.trans hc (fun q hq => .inr (by have := hld q hq; omega))
              have hro7 := HRO6.out.ch hc (fun k hk hk2 => by have := HOW.out k (.inl hk); have := hld k hk2; omega)
              have hrl7 := HRL6.out.ch hc (fun k hk hk2 => by have := HOW.out k (.inr hk); have := hld k hk2; omega)
              have hkd : k = 0 := by omega
              have HCW7 := Lib.hid hcw7; clear hcw7 hc hbb
              have HRO7 := Lib.hid hro7; clear hro7
              have HRL7 := Lib.hid hrl7; clear hrl7
              clear HRO6 HRL6 HRD6 HCW6
              have HRf := Refs23_is (w := wr) l.length lc rfl (HS.out.ch HCW7.out (by simp)) (by omega)
              go_wp2_with fail
              refine HRf.mono ?_
              rintro e W8 ⟨vo, rfl, hrp, hlp, hc8⟩
              obtain ⟨pa, pc, rfl⟩ := row.shape hrp
              have HE := Eqref_is (w := W8) oc pc (xs := l) (ys := l) (Sl.of_ints (HRO7.out.ch hc8 (by simp)) (by omega)) (Sl.of_ints hrp (by omega))
              simp only [decide_true] at HE
              clear HRf hrp hlp
              have HC8 := Lib.hid hc8; clear hc8
              go_wp2_with fail
              refine HE.mono ?_
              rintro e W9 ⟨rfl, hc9⟩
              have hc79 := HC8.out.trans hc9 (by simp)
              have HE2 := Eqbool_is (w := W9) tc vc (xs := vs) (ys := vs) (row.sv (HRL7.out.ch hc79 (by simp)) rfl (by omega)) (HV.out.ch (HCW7.out.trans hc79 (by simp)) (by simp))
              simp only [decide_true] at HE2
              have HC79 := Lib.hid hc79; clear hc79 hc9 HE
              go_wp2_with fail
              refine HE2.mono ?_
              rintro e W10 ⟨rfl, hc10⟩
              have HCF := Lib.hid ((HCW7.out.trans HC79.out (by simp)).trans hc10 (by simp))
              clear HE2 hc10
              go_wp2_with fail
              go_ret
              exact ⟨rfl, HCF.out⟩
set_option maxRecDepth 100000 in
set_option maxHeartbeats 8000000 in
theorem words23_ffF2 {x : Nat} (hx : x < 4294967296) {width : Int} (hr : rightW width = false) {la va : Option Addr} {l : List Int} {vs : List Bool} (lc vc : Nat) (hS : Sl w la l) (hV : Sb w va vs) (hl : l.length ≤ 30) (hm : vs.length ≤ 30) (hbd : ∀ r ∈ l, -9223372036854775808 ≤ r ∧ r ≤ 9223372036854775807)  (hv : 17 ≤ l.length) :
    Calls Tryz.prog 8 #[.int .u32 x, .int .i64 width, .slice la l.length lc, .slice va vs.length vc] w fun e w' => e = .returned (.bool true) ∧ Ch [] w w' := by
  have HRf := Refs23_is (w := w) l.length lc rfl hS (by omega)
  have HS := Lib.hid hS; clear hS
  have HV := Lib.hid hV; clear hV
  have HBD := Lib.hid hbd; clear hbd
  go_enter Tryz.func8, Tryz.ntmps8
  go_wp2_with fail
  refine HRf.mono ?_
  rintro e w1 ⟨vo, rfl, hro, hlo, hc1⟩
  obtain ⟨oa, oc, rfl⟩ := row.shape hro
  have HCB := Clbool_is (w := w1) vs.length vc rfl (HV.out.ch hc1 (by simp)) (by omega)
  go_wp2_with fail
  refine HCB.mono ?_
  rintro e w2 ⟨vl, rfl, hrl, hll, hc2⟩
  obtain ⟨ta, tc, rfl⟩ := row.shape hrl
  have HCo := sConst_is (w := w2) x hx width
  rw [hr] at HCo
  simp only [if_true, Bool.false_eq_true, if_false, Int.toNat_natCast] at HCo
  go_wp2_with fail
  refine HCo.mono ?_
  rintro e w3 ⟨vcc, rfl, hnc⟩
  obtain ⟨ca, cc, rfl, hrc, hlc, hc3⟩ := hnc.parts (n := 0) (by simp [refsCells, constL])
  have hro3 := (hro.ch hc2 (by simp)).ch hc3 (by simp)
  have hwv : WVok w3 ⟨oa, l, oc⟩ := ⟨Sl.of_ints hro3 (by omega), HBD.out, by simp only; omega⟩
  have hcap : l.length ≤ oc := rowCap hro3
  have HCa := sCast_is hwv hcap width
  simp only [hr, WV.val, Bool.and_self, Bool.false_and, Bool.and_false, if_true, Bool.false_eq_true, if_false, Int.toNat_natCast] at HCa
  go_wp2_with fail
  refine HCa.mono ?_
  rintro e w4 ⟨vd, rfl, hnd⟩
  obtain ⟨da, dc, rfl, hrd, hld, hc4⟩ := hnd.parts (n := 0) (by simp [intCells, castL])
  have hrl4 := (hrl.ch hc3 (by simp)).ch hc4 (by simp)
  have HVa := sValue_is (w := w4) (x := ⟨oa, l, oc⟩) (by simp only; omega) (a := ta) (l := vs) tc (by omega) (row.sv hrl4 rfl (by omega))
  simp only [WV.val] at HVa
  rw [if_neg (by omega), if_neg (by omega)] at HVa
  go_wp2_with fail
  refine HVa.mono ?_
  rintro e w5 ⟨rfl, rfl⟩
  have HRi := r23Right_is (w := w4) width
  rw [hr] at HRi
  go_wp2_with fail
  refine HRi.mono ?_
  rintro e w5 ⟨rfl, rfl⟩
  have hro4 := hro3.ch hc4 (by simp)
  have hrc4 := hrc.ch hc4 (by simp)
  have hcw4 := ((hc1.trans hc2 (by simp)).trans hc3 (by simp)).trans hc4 (by simp)
  have hcw3 := (hc1.trans hc2 (by simp)).trans hc3 (by simp)
  have hown : ∀ k, (Value.slice oa l.length oc).ownBlock = some k ∨ (Value.slice ta vs.length tc).ownBlock = some k → k < w3.heap.size := fun k hk => by
    rcases hk with hk | hk
    · exact (hro3.lt k hk).2
    · exact ((hrl.ch hc3 (by simp)).lt k hk).2
  have HRO := Lib.hid hro4; clear hro hro3 hro4
  have HRL := Lib.hid hrl4; clear hrl hrl4
  have HRC := Lib.hid hrc4; clear hrc hrc4
  have HRD := Lib.hid hrd; clear hrd
  have HLD := Lib.hid hld; clear hld
  have HCW := Lib.hid hcw4; clear hcw4
  have HCW3 := Lib.hid hcw3; clear hcw3
  have HOW := Lib.hid hown
  clear hown HRf HCB HCo HCa HVa HRi hnc hnd hc1 hc2 hc3 hc4 hlo hll hlc hwv
  go_wp2_with fail
  go_loopw [89] (fun i wr => ∃ k : Nat, k ≤ 3 ∧ i = .int .i64 k ∧ wr = w4.alloc (.cells #[.int .i64 230, .int .i64 230, .int .i64 230] 36)) (fun i _ => 3 - (intOf i).toNat)
  case atStart => exact ⟨0, by omega, rfl, rfl⟩
  case round =>
    obtain ⟨k, hk, rfl, rfl⟩ := hrel
    by_cases hlt : k < 3
    · obtain ⟨ev, hev, hcell⟩ : ∃ ev : Int, (ev = 0 ∨ ev = 230) ∧ (w4.alloc (.cells #[.int .i64 230, .int .i64 230, .int .i64 230] 36)).cell? ⟨w4.heap.size, k, none⟩ = some (.int .i64 ev) := by
        have hb : blk (w4.alloc (.cells #[.int .i64 230, .int .i64 230, .int .i64 230] 36)) w4.heap.size [.int .i64 230, .int .i64 230, .int .i64 230] := blk.new' _ _ rfl
        rcases (show k = 0 ∨ k = 1 ∨ k = 2 by omega) with rfl | rfl | rfl <;> exact ⟨_, by simp, hb.cell rfl⟩
      rcases hev with rfl | rfl
      · go_wp2_with fail
        go_roundw
        case rel => exact ⟨k + 1, by omega, by go_num, trivial⟩
        case measure => simp [intOf]; omega
      · go_wp2_with fail
        go_roundw
        case rel => exact ⟨k + 1, by omega, by go_num, trivial⟩
        case measure => simp [intOf]; omega
    · obtain ⟨W5, hW5⟩ : ∃ W5, W5 = w4.alloc (.cells #[.int .i64 230, .int .i64 230, .int .i64 230] 36) := ⟨_, rfl⟩
      rw [← hW5]
      have hc5 := alw_ch hW5
      clear hW5
      have HRO5 := Lib.hid (HRO.out.ch hc5 (by simp))
      have HRL5 := Lib.hid (HRL.out.ch hc5 (by simp))
      have HRC5 := Lib.hid (HRC.out.ch hc5 (by simp))
      have HRD5 := Lib.hid (HRD.out.ch hc5 (by simp))
      have HCW5 := Lib.hid (HCW.out.trans hc5 (by simp))
      have HZ5 := Lib.hid hc5.size
      clear HRO HRL HRC HRD hc5
      have HC := Lib.hid (Ch.refl [] W5)
      have HRO6 := Lib.hid (HRO5.out.ch HC.out (by simp))
      have HRL6 := Lib.hid (HRL5.out.ch HC.out (by simp))
      have HRD6 := Lib.hid (HRD5.out.ch HC.out (by simp))
      have HCW6 := Lib.hid (HCW5.out.trans HC.out (by simp))
      clear HRO5 HRL5 HRC5 HRD5
      obtain ⟨W6, hW6⟩ : ∃ W6, W6 = W5 := ⟨_, rfl⟩
      rw [← hW6] at HRO6 HRL6 HRD6 HCW6 HC
      try rw [← hW6]
      clear hW6
      go_wp2_with fail
      go_loopw [21, 22] (fun x i wr => i = .int .i64 ((vs.length : Int) - 1) ∧ W6 = wr ∧ x = .int .u32 0) (fun _ i _ => 0)
      case atStart => exact ⟨rfl, rfl, rfl⟩
      case round =>
        obtain ⟨rfl, rfl, rfl⟩ := hrel
        by_cases h0 : vs.length < 1
        · have hd0 : decide ((0 : Int) ≤ (vs.length : Int) - 1) = false := decide_eq_false (by omega)
          go_wp2_with fail
          go_loopw [162] (fun i wr => ∃ k : Nat, k ≤ 0 ∧ i = .int .i64 k ∧ Ch (Value.slice da 0 dc).ownBlock.toList W6 wr ∧ ∀ j, j < 0 → ∃ (b : Nat) (ys : List Value), da = some ⟨b, 0, none⟩ ∧ blk wr b ys ∧ 0 ≤ ys.length) (fun i _ => 0 - (intOf i).toNat)
          case atStart => exact ⟨0, by omega, rfl, Ch.refl _ _, rowBlk HRD6.out⟩
          case round =>
            obtain ⟨k, hk, rfl, hc, hbb⟩ := hrel
            by_cases hlt : k < 0
            · exact absurd hlt (by omega)
            · have hld : ∀ q ∈ (Value.slice da 0 dc).ownBlock.toList, w3.heap.size ≤ q := HLD.out
              have hz3 := HCW3.out.size
              have hcw7 : Ch [] w wr := HCW6.out.trans hc (fun q hq => .inr (by have := hld q hq; omega))
              have hro7 := HRO6.out.ch hc (fun k hk hk2 => by have := HOW.out k (.inl hk); have := hld k hk2; omega)
              have hrl7 := HRL6.out.ch hc (fun k hk hk2 => by have := HOW.out k (.inr hk); have := hld k hk2; omega)
              have hkd : k = 0 := by omega
              have HCW7 := Lib.hid hcw7; clear hcw7 hc hbb
              have HRO7 := Lib.hid hro7; clear hro7
              have HRL7 := Lib.hid hrl7; clear hrl7
              clear HRO6 HRL6 HRD6 HCW6
              have HRf := Refs23_is (w := wr) l.length lc rfl (HS.out.ch HCW7.out (by simp)) (by omega)
              go_wp2_with fail
              refine HRf.mono ?_
              rintro e W8 ⟨vo, rfl, hrp, hlp, hc8⟩
              obtain ⟨pa, pc, rfl⟩ := row.shape hrp
              have HE := Eqref_is (w := W8) oc pc (xs := l) (ys := l) (Sl.of_ints (HRO7.out.ch hc8 (by simp)) (by omega)) (Sl.of_ints hrp (by omega))
              simp only [decide_true] at HE
              clear HRf hrp hlp
              have HC8 := Lib.hid hc8; clear hc8
              go_wp2_with fail
              refine HE.mono ?_
              rintro e W9 ⟨rfl, hc9⟩
              have hc79 := HC8.out.trans hc9 (by simp)
              have HE2 := Eqbool_is (w := W9) tc vc (xs := vs) (ys := vs) (row.sv (HRL7.out.ch hc79 (by simp)) rfl (by omega)) (HV.out.ch (HCW7.out.trans hc79 (by simp)) (by simp))
              simp only [decide_true] at HE2
              have HC79 := Lib.hid hc79; clear hc79 hc9 HE
              go_wp2_with fail
              refine HE2.mono ?_
              rintro e W10 ⟨rfl, hc10⟩
              have HCF := Lib.hid ((HCW7.out.trans HC79.out (by simp)).trans hc10 (by simp))
              clear HE2 hc10
              go_wp2_with fail
              go_ret
              exact ⟨rfl, HCF.out⟩
        · have hd0 : decide ((0 : Int) ≤ (vs.length : Int) - 1) = true := decide_eq_true (by omega)
          have h1 : 1 ≤ vs.length := by omega
          clear h0
          go_wp2_with fail
          go_loopw [162] (fun i wr => ∃ k : Nat, k ≤ 0 ∧ i = .int .i64 k ∧ Ch (Value.slice da 0 dc).ownBlock.toList W6 wr ∧ ∀ j, j < 0 → ∃ (b : Nat) (ys : List Value), da = some ⟨b, 0, none⟩ ∧ blk wr b ys ∧ 0 ≤ ys.length) (fun i _ => 0 - (intOf i).toNat)
          case atStart => exact ⟨0, by omega, rfl, Ch.refl _ _, rowBlk HRD6.out⟩
          case round =>
            obtain ⟨k, hk, rfl, hc, hbb⟩ := hrel
            by_cases hlt : k < 0
            · exact absurd hlt (by omega)
            · have hld : ∀ q ∈ (Value.slice da 0 dc).ownBlock.toList, w3.heap.size ≤ q := HLD.out
              have hz3 := HCW3.out.size
              have hcw7 : Ch [] w wr := HCW6.out.trans hc (fun q hq => .inr (by have := hld q hq; omega))
              have hro7 := HRO6.out.ch hc (fun k hk hk2 => by have := HOW.out k (.inl hk); have := hld k hk2; omega)
              have hrl7 := HRL6.out.ch hc (fun k hk hk2 => by have := HOW.out k (.inr hk); have := hld k hk2; omega)
              have hkd : k = 0 := by omega
              have HCW7 := Lib.hid hcw7; clear hcw7 hc hbb
              have HRO7 := Lib.hid hro7; clear hro7
              have HRL7 := Lib.hid hrl7; clear hrl7
              clear HRO6 HRL6 HRD6 HCW6
              have HRf := Refs23_is (w := wr) l.length lc rfl (HS.out.ch HCW7.out (by simp)) (by omega)
              go_wp2_with fail
              refine HRf.mono ?_
              rintro e W8 ⟨vo, rfl, hrp, hlp, hc8⟩
              obtain ⟨pa, pc, rfl⟩ := row.shape hrp
              have HE := Eqref_is (w := W8) oc pc (xs := l) (ys := l) (Sl.of_ints (HRO7.out.ch hc8 (by simp)) (by omega)) (Sl.of_ints hrp (by omega))
              simp only [decide_true] at HE
              clear HRf hrp hlp
              have HC8 := Lib.hid hc8; clear hc8
              go_wp2_with fail
              refine HE.mono ?_
              rintro e W9 ⟨rfl, hc9⟩
              have hc79 := HC8.out.trans hc9 (by simp)
              have HE2 := Eqbool_is (w := W9) tc vc (xs := vs) (ys := vs) (row.sv (HRL7.out.ch hc79 (by simp)) rfl (by omega)) (HV.out.ch (HCW7.out.trans hc79 (by simp)) (by simp))
              simp only [decide_true] at HE2
              have HC79 := Lib.hid hc79; clear hc79 hc9 HE
              go_wp2_with fail
              refine HE2.mono ?_
              rintro e W10 ⟨rfl, hc10⟩
              have HCF := Lib.hid ((HCW7.out.trans HC79.out (by simp)).trans hc10 (by simp))
              clear HE2 hc10
              go_wp2_with fail
              go_ret
              exact ⟨rfl, HCF.out⟩
set_option maxRecDepth 100000 in
set_option maxHeartbeats 8000000 in
theorem words23_ffF3 {x : Nat} (hx : x < 4294967296) {width : Int} (hr : rightW width = false) {la va : Option Addr} {l : List Int} {vs : List Bool} (lc vc : Nat) (hS : Sl w la l) (hV : Sb w va vs) (hl : l.length ≤ 30) (hm : vs.length ≤ 30) (hbd : ∀ r ∈ l, -9223372036854775808 ≤ r ∧ r ≤ 9223372036854775807)  (hv1 : 1 ≤ l.length) (hv2 : l.length ≤ 16) (hv : vs.length ≠ l.length) :
    Calls Tryz.prog 8 #[.int .u32 x, .int .i64 width, .slice la l.length lc, .slice va vs.length vc] w fun e w' => e = .returned (.bool true) ∧ Ch [] w w' := by
  have HRf := Refs23_is (w := w) l.length lc rfl hS (by omega)
  have HS := Lib.hid hS; clear hS
  have HV := Lib.hid hV; clear hV
  have HBD := Lib.hid hbd; clear hbd
  have hbq : ((vs.length : Int) == (l.length : Int)) = false := beqN (by omega)
  go_enter Tryz.func8, Tryz.ntmps8
  go_wp2_with fail
  refine HRf.mono ?_
  rintro e w1 ⟨vo, rfl, hro, hlo, hc1⟩
  obtain ⟨oa, oc, rfl⟩ := row.shape hro
  have HCB := Clbool_is (w := w1) vs.length vc rfl (HV.out.ch hc1 (by simp)) (by omega)
  go_wp2_with fail
  refine HCB.mono ?_
  rintro e w2 ⟨vl, rfl, hrl, hll, hc2⟩
  obtain ⟨ta, tc, rfl⟩ := row.shape hrl
  have HCo := sConst_is (w := w2) x hx width
  rw [hr] at HCo
  simp only [if_true, Bool.false_eq_true, if_false, Int.toNat_natCast] at HCo
  go_wp2_with fail
  refine HCo.mono ?_
  rintro e w3 ⟨vcc, rfl, hnc⟩
  obtain ⟨ca, cc, rfl, hrc, hlc, hc3⟩ := hnc.parts (n := 0) (by simp [refsCells, constL])
  have hro3 := (hro.ch hc2 (by simp)).ch hc3 (by simp)
  have hwv : WVok w3 ⟨oa, l, oc⟩ := ⟨Sl.of_ints hro3 (by omega), HBD.out, by simp only; omega⟩
  have hcap : l.length ≤ oc := rowCap hro3
  have HCa := sCast_is hwv hcap width
  simp only [hr, WV.val, Bool.and_self, Bool.false_and, Bool.and_false, if_true, Bool.false_eq_true, if_false, Int.toNat_natCast] at HCa
  go_wp2_with fail
  refine HCa.mono ?_
  rintro e w4 ⟨vd, rfl, hnd⟩
  obtain ⟨da, dc, rfl, hrd, hld, hc4⟩ := hnd.parts (n := 0) (by simp [intCells, castL])
  have hrl4 := (hrl.ch hc3 (by simp)).ch hc4 (by simp)
  have HVa := sValue_is (w := w4) (x := ⟨oa, l, oc⟩) (by simp only; omega) (a := ta) (l := vs) tc (by omega) (row.sv hrl4 rfl (by omega))
  simp only [WV.val] at HVa
  rw [if_neg (by omega), if_neg (by omega)] at HVa
  go_wp2_with fail
  refine HVa.mono ?_
  rintro e w5 ⟨rfl, rfl⟩
  have HRi := r23Right_is (w := w4) width
  rw [hr] at HRi
  go_wp2_with fail
  refine HRi.mono ?_
  rintro e w5 ⟨rfl, rfl⟩
  have hro4 := hro3.ch hc4 (by simp)
  have hrc4 := hrc.ch hc4 (by simp)
  have hcw4 := ((hc1.trans hc2 (by simp)).trans hc3 (by simp)).trans hc4 (by simp)
  have hcw3 := (hc1.trans hc2 (by simp)).trans hc3 (by simp)
  have hown : ∀ k, (Value.slice oa l.length oc).ownBlock = some k ∨ (Value.slice ta vs.length tc).ownBlock = some k → k < w3.heap.size := fun k hk => by
    rcases hk with hk | hk
    · exact (hro3.lt k hk).2
    · exact ((hrl.ch hc3 (by simp)).lt k hk).2
  have HRO := Lib.hid hro4; clear hro hro3 hro4
  have HRL := Lib.hid hrl4; clear hrl hrl4
  have HRC := Lib.hid hrc4; clear hrc hrc4
  have HRD := Lib.hid hrd; clear hrd
  have HLD := Lib.hid hld; clear hld
  have HCW := Lib.hid hcw4; clear hcw4
  have HCW3 := Lib.hid hcw3; clear hcw3
  have HOW := Lib.hid hown
  clear hown HRf HCB HCo HCa HVa HRi hnc hnd hc1 hc2 hc3 hc4 hlo hll hlc hwv
  go_wp2_with fail
  go_loopw [89] (fun i wr => ∃ k : Nat, k ≤ 3 ∧ i = .int .i64 k ∧ wr = w4.alloc (.cells #[.int .i64 230, .int .i64 230, .int .i64 230] 36)) (fun i _ => 3 - (intOf i).toNat)
  case atStart => exact ⟨0, by omega, rfl, rfl⟩
  case round =>
    obtain ⟨k, hk, rfl, rfl⟩ := hrel
    by_cases hlt : k < 3
    · obtain ⟨ev, hev, hcell⟩ : ∃ ev : Int, (ev = 0 ∨ ev = 230) ∧ (w4.alloc (.cells #[.int .i64 230, .int .i64 230, .int .i64 230] 36)).cell? ⟨w4.heap.size, k, none⟩ = some (.int .i64 ev) := by
        have hb : blk (w4.alloc (.cells #[.int .i64 230, .int .i64 230, .int .i64 230] 36)) w4.heap.size [.int .i64 230, .int .i64 230, .int .i64 230] := blk.new' _ _ rfl
        rcases (show k = 0 ∨ k = 1 ∨ k = 2 by omega) with rfl | rfl | rfl <;> exact ⟨_, by simp, hb.cell rfl⟩
      rcases hev with rfl | rfl
      · go_wp2_with fail
        go_roundw
        case rel => exact ⟨k + 1, by omega, by go_num, trivial⟩
        case measure => simp [intOf]; omega
      · go_wp2_with fail
        go_roundw
        case rel => exact ⟨k + 1, by omega, by go_num, trivial⟩
        case measure => simp [intOf]; omega
    · obtain ⟨W5, hW5⟩ : ∃ W5, W5 = w4.alloc (.cells #[.int .i64 230, .int .i64 230, .int .i64 230] 36) := ⟨_, rfl⟩
      rw [← hW5]
      have hc5 := alw_ch hW5
      clear hW5
      have HRO5 := Lib.hid (HRO.out.ch hc5 (by simp))
      have HRL5 := Lib.hid (HRL.out.ch hc5 (by simp))
      have HRC5 := Lib.hid (HRC.out.ch hc5 (by simp))
      have HRD5 := Lib.hid (HRD.out.ch hc5 (by simp))
      have HCW5 := Lib.hid (HCW.out.trans hc5 (by simp))
      have HZ5 := Lib.hid hc5.size
      clear HRO HRL HRC HRD hc5
      have HC := Lib.hid (Ch.refl [] W5)
      have HRO6 := Lib.hid (HRO5.out.ch HC.out (by simp))
      have HRL6 := Lib.hid (HRL5.out.ch HC.out (by simp))
      have HRD6 := Lib.hid (HRD5.out.ch HC.out (by simp))
      have HCW6 := Lib.hid (HCW5.out.trans HC.out (by simp))
      clear HRO5 HRL5 HRC5 HRD5
      obtain ⟨W6, hW6⟩ : ∃ W6, W6 = W5 := ⟨_, rfl⟩
      rw [← hW6] at HRO6 HRL6 HRD6 HCW6 HC
      try rw [← hW6]
      clear hW6
      go_wp2_with fail
      go_loopw [21, 22] (fun x i wr => i = .int .i64 ((vs.length : Int) - 1) ∧ W6 = wr ∧ x = .int .u32 0) (fun _ i _ => 0)
      case atStart => exact ⟨rfl, rfl, rfl⟩
      case round =>
        obtain ⟨rfl, rfl, rfl⟩ := hrel
        by_cases h0 : vs.length < 1
        · have hd0 : decide ((0 : Int) ≤ (vs.length : Int) - 1) = false := decide_eq_false (by omega)
          go_wp2_with fail
          go_loopw [162] (fun i wr => ∃ k : Nat, k ≤ 0 ∧ i = .int .i64 k ∧ Ch (Value.slice da 0 dc).ownBlock.toList W6 wr ∧ ∀ j, j < 0 → ∃ (b : Nat) (ys : List Value), da = some ⟨b, 0, none⟩ ∧ blk wr b ys ∧ 0 ≤ ys.length) (fun i _ => 0 - (intOf i).toNat)
          case atStart => exact ⟨0, by omega, rfl, Ch.refl _ _, rowBlk HRD6.out⟩
          case round =>
            obtain ⟨k, hk, rfl, hc, hbb⟩ := hrel
            by_cases hlt : k < 0
            · exact absurd hlt (by omega)
            · have hld : ∀ q ∈ (Value.slice da 0 dc).ownBlock.toList, w3.heap.size ≤ q := HLD.out
              have hz3 := HCW3.out.size
              have hcw7 : Ch [] w wr := HCW6.out.trans hc (fun q hq => .inr (by have := hld q hq; omega))
              have hro7 := HRO6.out.ch hc (fun k hk hk2 => by have := HOW.out k (.inl hk); have := hld k hk2; omega)
              have hrl7 := HRL6.out.ch hc (fun k hk hk2 => by have := HOW.out k (.inr hk); have := hld k hk2; omega)
              have hkd : k = 0 := by omega
              have HCW7 := Lib.hid hcw7; clear hcw7 hc hbb
              have HRO7 := Lib.hid hro7; clear hro7
              have HRL7 := Lib.hid hrl7; clear hrl7
              clear HRO6 HRL6 HRD6 HCW6
              have HRf := Refs23_is (w := wr) l.length lc rfl (HS.out.ch HCW7.out (by simp)) (by omega)
              go_wp2_with fail
              refine HRf.mono ?_
              rintro e W8 ⟨vo, rfl, hrp, hlp, hc8⟩
              obtain ⟨pa, pc, rfl⟩ := row.shape hrp
              have HE := Eqref_is (w := W8) oc pc (xs := l) (ys := l) (Sl.of_ints (HRO7.out.ch hc8 (by simp)) (by omega)) (Sl.of_ints hrp (by omega))
              simp only [decide_true] at HE
              clear HRf hrp hlp
              have HC8 := Lib.hid hc8; clear hc8
              go_wp2_with fail
              refine HE.mono ?_
              rintro e W9 ⟨rfl, hc9⟩
              have hc79 := HC8.out.trans hc9 (by simp)
              have HE2 := Eqbool_is (w := W9) tc vc (xs := vs) (ys := vs) (row.sv (HRL7.out.ch hc79 (by simp)) rfl (by omega)) (HV.out.ch (HCW7.out.trans hc79 (by simp)) (by simp))
              simp only [decide_true] at HE2
              have HC79 := Lib.hid hc79; clear hc79 hc9 HE
              go_wp2_with fail
              refine HE2.mono ?_
              rintro e W10 ⟨rfl, hc10⟩
              have HCF := Lib.hid ((HCW7.out.trans HC79.out (by simp)).trans hc10 (by simp))
              clear HE2 hc10
              go_wp2_with fail
              go_ret
              exact ⟨rfl, HCF.out⟩
        · have hd0 : decide ((0 : Int) ≤ (vs.length : Int) - 1) = true := decide_eq_true (by omega)
          have h1 : 1 ≤ vs.length := by omega
          clear h0
          go_wp2_with fail
          go_loopw [162] (fun i wr => ∃ k : Nat, k ≤ 0 ∧ i = .int .i64 k ∧ Ch (Value.slice da 0 dc).ownBlock.toList W6 wr ∧ ∀ j, j < 0 → ∃ (b : Nat) (ys : List Value), da = some ⟨b, 0, none⟩ ∧ blk wr b ys ∧ 0 ≤ ys.length) (fun i _ => 0 - (intOf i).toNat)
          case atStart => exact ⟨0, by omega, rfl, Ch.refl _ _, rowBlk HRD6.out⟩
          case round =>
            obtain ⟨k, hk, rfl, hc, hbb⟩ := hrel
            by_cases hlt : k < 0
            · exact absurd hlt (by omega)
            · have hld : ∀ q ∈ (Value.slice da 0 dc).ownBlock.toList, w3.heap.size ≤ q := HLD.out
              have hz3 := HCW3.out.size
              have hcw7 : Ch [] w wr := HCW6.out.trans hc (fun q hq => .inr (by have := hld q hq; omega))
              have hro7 := HRO6.out.ch hc (fun k hk hk2 => by have := HOW.out k (.inl hk); have := hld k hk2; omega)
              have hrl7 := HRL6.out.ch hc (fun k hk hk2 => by have := HOW.out k (.inr hk); have := hld k hk2; omega)
              have hkd : k = 0 := by omega
              have HCW7 := Lib.hid hcw7; clear hcw7 hc hbb
              have HRO7 := Lib.hid hro7; clear hro7
              have HRL7 := Lib.hid hrl7; clear hrl7
              clear HRO6 HRL6 HRD6 HCW6
              have HRf := Refs23_is (w := wr) l.length lc rfl (HS.out.ch HCW7.out (by simp)) (by omega)
              go_wp2_with fail
              refine HRf.mono ?_
              rintro e W8 ⟨vo, rfl, hrp, hlp, hc8⟩
              obtain ⟨pa, pc, rfl⟩ := row.shape hrp
              have HE := Eqref_is (w := W8) oc pc (xs := l) (ys := l) (Sl.of_ints (HRO7.out.ch hc8 (by simp)) (by omega)) (Sl.of_ints hrp (by omega))
              simp only [decide_true] at HE
              clear HRf hrp hlp
              have HC8 := Lib.hid hc8; clear hc8
              go_wp2_with fail
              refine HE.mono ?_
              rintro e W9 ⟨rfl, hc9⟩
              have hc79 := HC8.out.trans hc9 (by simp)
              have HE2 := Eqbool_is (w := W9) tc vc (xs := vs) (ys := vs) (row.sv (HRL7.out.ch hc79 (by simp)) rfl (by omega)) (HV.out.ch (HCW7.out.trans hc79 (by simp)) (by simp))
              simp only [decide_true] at HE2
              have HC79 := Lib.hid hc79; clear hc79 hc9 HE
              go_wp2_with fail
              refine HE2.mono ?_
              rintro e W10 ⟨rfl, hc10⟩
              have HCF := Lib.hid ((HCW7.out.trans HC79.out (by simp)).trans hc10 (by simp))
              clear HE2 hc10
              go_wp2_with fail
              go_ret
              exact ⟨rfl, HCF.out⟩
set_option maxRecDepth 100000 in
set_option maxHeartbeats 8000000 in
theorem words23_tfF1 {x : Nat} (hx : x < 4294967296) {k0 : Nat} (hk0 : k0 ≤ 17) (hk1 : 1 ≤ k0) {la va : Option Addr} {l : List Int} {vs : List Bool} (lc vc : Nat) (hS : Sl w la l) (hV : Sb w va vs) (hl : l.length ≤ 30) (hm : vs.length ≤ 30) (hbd : ∀ r ∈ l, -9223372036854775808 ≤ r ∧ r ≤ 9223372036854775807) (hq : rightW l.length = false) (hv : l.length < 1) :
    Calls Tryz.prog 8 #[.int .u32 x, .int .i64 k0, .slice la l.length lc, .slice va vs.length vc] w fun e w' => e = .returned (.bool true) ∧ Ch [] w w' := by
  have hr : rightW (k0 : Int) = true := by unfold rightW; simp; omega
  have HRf := Refs23_is (w := w) l.length lc rfl hS (by omega)
  have HS := Lib.hid hS; clear hS
  have HV := Lib.hid hV; clear hV
  have HBD := Lib.hid hbd; clear hbd
  go_enter Tryz.func8, Tryz.ntmps8
  go_wp2_with fail
  refine HRf.mono ?_
  rintro e w1 ⟨vo, rfl, hro, hlo, hc1⟩
  obtain ⟨oa, oc, rfl⟩ := row.shape hro
  have HCB := Clbool_is (w := w1) vs.length vc rfl (HV.out.ch hc1 (by simp)) (by omega)
  go_wp2_with fail
  refine HCB.mono ?_
  rintro e w2 ⟨vl, rfl, hrl, hll, hc2⟩
  obtain ⟨ta, tc, rfl⟩ := row.shape hrl
  have HCo := sConst_is (w := w2) x hx k0
  rw [hr] at HCo
  simp only [if_true, Bool.false_eq_true, if_false, Int.toNat_natCast] at HCo
  go_wp2_with fail
  refine HCo.mono ?_
  rintro e w3 ⟨vcc, rfl, hnc⟩
  obtain ⟨ca, cc, rfl, hrc, hlc, hc3⟩ := hnc.parts (n := k0) (by simp [refsCells, constL])
  have hro3 := (hro.ch hc2 (by simp)).ch hc3 (by simp)
  have hwv : WVok w3 ⟨oa, l, oc⟩ := ⟨Sl.of_ints hro3 (by omega), HBD.out, by simp only; omega⟩
  have hcap : l.length ≤ oc := rowCap hro3
  have HCa := sCast_is hwv hcap k0
  simp only [hr, hq, WV.val, Bool.and_self, Bool.false_and, Bool.and_false, if_true, Bool.false_eq_true, if_false, Int.toNat_natCast] at HCa
  go_wp2_with fail
  refine HCa.mono ?_
  rintro e w4 ⟨vd, rfl, hnd⟩
  obtain ⟨da, dc, rfl, hrd, hld, hc4⟩ := hnd.parts (n := 0) (by simp [intCells, castL])
  have hrl4 := (hrl.ch hc3 (by simp)).ch hc4 (by simp)
  have HVa := sValue_is (w := w4) (x := ⟨oa, l, oc⟩) (by simp only; omega) (a := ta) (l := vs) tc (by omega) (row.sv hrl4 rfl (by omega))
  simp only [WV.val] at HVa
  rw [if_neg (by omega), if_neg (by omega)] at HVa
  go_wp2_with fail
  refine HVa.mono ?_
  rintro e w5 ⟨rfl, rfl⟩
  have HRi := r23Right_is (w := w4) k0
  rw [hr] at HRi
  go_wp2_with fail
  refine HRi.mono ?_
  rintro e w5 ⟨rfl, rfl⟩
  have HRj := r23Right_is (w := w4) l.length
  rw [hq] at HRj
  go_wp2_with fail
  refine HRj.mono ?_
  rintro e w5 ⟨rfl, rfl⟩
  have hro4 := hro3.ch hc4 (by simp)
  have hrc4 := hrc.ch hc4 (by simp)
  have hcw4 := ((hc1.trans hc2 (by simp)).trans hc3 (by simp)).trans hc4 (by simp)
  have hcw3 := (hc1.trans hc2 (by simp)).trans hc3 (by simp)
  have hown : ∀ k, (Value.slice oa l.length oc).ownBlock = some k ∨ (Value.slice ta vs.length tc).ownBlock = some k → k < w3.heap.size := fun k hk => by
    rcases hk with hk | hk
    · exact (hro3.lt k hk).2
    · exact ((hrl.ch hc3 (by simp)).lt k hk).2
  have HRO := Lib.hid hro4; clear hro hro3 hro4
  have HRL := Lib.hid hrl4; clear hrl hrl4
  have HRC := Lib.hid hrc4; clear hrc hrc4
  have HRD := Lib.hid hrd; clear hrd
  have HLD := Lib.hid hld; clear hld
  have HCW := Lib.hid hcw4; clear hcw4
  have HCW3 := Lib.hid hcw3; clear hcw3
  have HOW := Lib.hid hown
  clear hown HRf HCB HCo HCa HVa HRi hnc hnd hc1 hc2 hc3 hc4 hlo hll hlc hwv
  go_wp2_with fail
  go_loopw [89] (fun i wr => ∃ k : Nat, k ≤ 3 ∧ i = .int .i64 k ∧ wr = w4.alloc (.cells #[.int .i64 0, .int .i64 230, .int .i64 230] 36)) (fun i _ => 3 - (intOf i).toNat)
  case atStart => exact ⟨0, by omega, rfl, rfl⟩
  case round =>
    obtain ⟨k, hk, rfl, rfl⟩ := hrel
    by_cases hlt : k < 3
    · obtain ⟨ev, hev, hcell⟩ : ∃ ev : Int, (ev = 0 ∨ ev = 230) ∧ (w4.alloc (.cells #[.int .i64 0, .int .i64 230, .int .i64 230] 36)).cell? ⟨w4.heap.size, k, none⟩ = some (.int .i64 ev) := by
        have hb : blk (w4.alloc (.cells #[.int .i64 0, .int .i64 230, .int .i64 230] 36)) w4.heap.size [.int .i64 0, .int .i64 230, .int .i64 230] := blk.new' _ _ rfl
        rcases (show k = 0 ∨ k = 1 ∨ k = 2 by omega) with rfl | rfl | rfl <;> exact ⟨_, by simp, hb.cell rfl⟩
      rcases hev with rfl | rfl
      · go_wp2_with fail
        go_roundw
        case rel => exact ⟨k + 1, by omega, by go_num, trivial⟩
        case measure => simp [intOf]; omega
      · go_wp2_with fail
        go_roundw
        case rel => exact ⟨k + 1, by omega, by go_num, trivial⟩
        case measure => simp [intOf]; omega
    · obtain ⟨W5, hW5⟩ : ∃ W5, W5 = w4.alloc (.cells #[.int .i64 0, .int .i64 230, .int .i64 230] 36) := ⟨_, rfl⟩
      rw [← hW5]
      have hc5 := alw_ch hW5
      clear hW5
      have HRO5 := Lib.hid (HRO.out.ch hc5 (by simp))
      have HRL5 := Lib.hid (HRL.out.ch hc5 (by simp))
      have HRC5 := Lib.hid (HRC.out.ch hc5 (by simp))
      have HRD5 := Lib.hid (HRD.out.ch hc5 (by simp))
      have HCW5 := Lib.hid (HCW.out.trans hc5 (by simp))
      have HZ5 := Lib.hid hc5.size
      clear HRO HRL HRC HRD hc5
      have HI := Ints23_is (w := W5) (a := ca) (l := natInts (constL x k0)) k0 cc (by simp [natInts, constL]) (by have := HRC5.out; rw [refs_natInts] at this; exact Sl.of_ints this (by omega)) (by omega)
      go_wp2_with fail
      refine HI.mono ?_
      rintro e w6 ⟨vi, rfl, hri, hli, hc6⟩
      obtain ⟨ia, ic, rfl⟩ := row.shape hri
      have HQ := r23Const_is (w := w6) x hx k0 hk0
      clear HI
      go_wp2_with fail
      refine HQ.mono ?_
      rintro e w7 ⟨vq, rfl, hrq, hlq, hc7⟩
      obtain ⟨qa, qc, rfl⟩ := row.shape hrq
      clear HQ
      have HE := Eqint_is (w := w7) ic qc (xs := natInts (constL x k0)) (ys := natInts (rConstN x k0)) (Sl.of_ints (hri.ch hc7 (by simp)) (by omega)) (by rw [refs_natInts] at hrq; exact Sl.of_ints hrq (by omega))
      simp only [natInts_len, rConstN_eq, decide_true, show (constL x k0).length = k0 from by simp [constL]] at HE
      clear hri hli hrq hlq
      go_wp2_with fail
      refine HE.mono ?_
      rintro e w8 ⟨rfl, hc8⟩
      clear HE
      have HC := Lib.hid ((hc6.trans hc7 (by simp)).trans hc8 (by simp))
      clear hc6 hc7 hc8
      have HRO6 := Lib.hid (HRO5.out.ch HC.out (by simp))
      have HRL6 := Lib.hid (HRL5.out.ch HC.out (by simp))
      have HRD6 := Lib.hid (HRD5.out.ch HC.out (by simp))
      have HCW6 := Lib.hid (HCW5.out.trans HC.out (by simp))
      clear HRO5 HRL5 HRC5 HRD5
      obtain ⟨W6, hW6⟩ : ∃ W6, W6 = w8 := ⟨_, rfl⟩
      rw [← hW6] at HRO6 HRL6 HRD6 HCW6 HC
      try rw [← hW6]
      clear hW6
      go_wp2_with fail
      go_loopw [21, 22] (fun x i wr => i = .int .i64 ((vs.length : Int) - 1) ∧ W6 = wr ∧ x = .int .u32 0) (fun _ i _ => 0)
      case atStart => exact ⟨rfl, rfl, rfl⟩
      case round =>
        obtain ⟨rfl, rfl, rfl⟩ := hrel
        by_cases h0 : vs.length < 1
        · have hd0 : decide ((0 : Int) ≤ (vs.length : Int) - 1) = false := decide_eq_false (by omega)
          go_wp2_with fail
          go_loopw [162] (fun i wr => ∃ k : Nat, k ≤ 0 ∧ i = .int .i64 k ∧ Ch (Value.slice da 0 dc).ownBlock.toList W6 wr ∧ ∀ j, j < 0 → ∃ (b : Nat) (ys : List Value), da = some ⟨b, 0, none⟩ ∧ blk wr b ys ∧ 0 ≤ ys.length) (fun i _ => 0 - (intOf i).toNat)
          case atStart => exact ⟨0, by omega, rfl, Ch.refl _ _, rowBlk HRD6.out⟩
          case round =>
            obtain ⟨k, hk, rfl, hc, hbb⟩ := hrel
            by_cases hlt : k < 0
            · exact absurd hlt (by omega)
            · have hld : ∀ q ∈ (Value.slice da 0 dc).ownBlock.toList, w3.heap.size ≤ q := HLD.out
              have hz3 := HCW3.out.size
              have hcw7 : Ch [] w wr := HCW6.out.trans hc (fun q hq => .inr (by have := hld q hq; omega))
              have hro7 := HRO6.out.ch hc (fun k hk hk2 => by have := HOW.out k (.inl hk); have := hld k hk2; omega)
              have hrl7 := HRL6.out.ch hc (fun k hk hk2 => by have := HOW.out k (.inr hk); have := hld k hk2; omega)
              have hkd : k = 0 := by omega
              have HCW7 := Lib.hid hcw7; clear hcw7 hc hbb
              have HRO7 := Lib.hid hro7; clear hro7
              have HRL7 := Lib.hid hrl7; clear hrl7
              clear HRO6 HRL6 HRD6 HCW6
              have HRf := Refs23_is (w := wr) l.length lc rfl (HS.out.ch HCW7.out (by simp)) (by omega)
              go_wp2_with fail
              refine HRf.mono ?_
              rintro e W8 ⟨vo, rfl, hrp, hlp, hc8⟩
              obtain ⟨pa, pc, rfl⟩ := row.shape hrp
              have HE := Eqref_is (w := W8) oc pc (xs := l) (ys := l) (Sl.of_ints (HRO7.out.ch hc8 (by simp)) (by omega)) (Sl.of_ints hrp (by omega))
              simp only [decide_true] at HE
              clear HRf hrp hlp
              have HC8 := Lib.hid hc8; clear hc8
              go_wp2_with fail
              refine HE.mono ?_
              rintro e W9 ⟨rfl, hc9⟩
              have hc79 := HC8.out.trans hc9 (by simp)
              have HE2 := Eqbool_is (w := W9) tc vc (xs := vs) (ys := vs) (row.sv (HRL7.out.ch hc79 (by simp)) rfl (by omega)) (HV.out.ch (HCW7.out.trans hc79 (by simp)) (by simp))
              simp only [decide_true] at HE2
              have HC79 := Lib.hid hc79; clear hc79 hc9 HE
              go_wp2_with fail
              refine HE2.mono ?_
              rintro e W10 ⟨rfl, hc10⟩
              have HCF := Lib.hid ((HCW7.out.trans HC79.out (by simp)).trans hc10 (by simp))
              clear HE2 hc10
              go_wp2_with fail
              go_ret
              exact ⟨rfl, HCF.out⟩
        · have hd0 : decide ((0 : Int) ≤ (vs.length : Int) - 1) = true := decide_eq_true (by omega)
          have h1 : 1 ≤ vs.length := by omega
          clear h0
          go_wp2_with fail
          go_loopw [162] (fun i wr => ∃ k : Nat, k ≤ 0 ∧ i = .int .i64 k ∧ Ch (Value.slice da 0 dc).ownBlock.toList W6 wr ∧ ∀ j, j < 0 → ∃ (b : Nat) (ys : List Value), da = some ⟨b, 0, none⟩ ∧ blk wr b ys ∧ 0 ≤ ys.length) (fun i _ => 0 - (intOf i).toNat)
          case atStart => exact ⟨0, by omega, rfl, Ch.refl _ _, rowBlk HRD6.out⟩
          case round =>
            obtain ⟨k, hk, rfl, hc, hbb⟩ := hrel
            by_cases hlt : k < 0
            · exact absurd hlt (by omega)
            · have hld : ∀ q ∈ (Value.slice da 0 dc).ownBlock.toList, w3.heap.size ≤ q := HLD.out
              have hz3 := HCW3.out.size
              have hcw7 : Ch [] w wr := HCW6.out.trans hc (fun q hq => .inr (by have := hld q hq; omega))
              have hro7 := HRO6.out.ch hc (fun k hk hk2 => by have := HOW.out k (.inl hk); have := hld k hk2; omega)
              have hrl7 := HRL6.out.ch hc (fun k hk hk2 => by have := HOW.out k (.inr hk); have := hld k hk2; omega)
              have hkd : k = 0 := by omega
              have HCW7 := Lib.hid hcw7; clear hcw7 hc hbb
              have HRO7 := Lib.hid hro7; clear hro7
              have HRL7 := Lib.hid hrl7; clear hrl7
              clear HRO6 HRL6 HRD6 HCW6
              have HRf := Refs23_is (w := wr) l.length lc rfl (HS.out.ch HCW7.out (by simp)) (by omega)
              go_wp2_with fail
              refine HRf.mono ?_
              rintro e W8 ⟨vo, rfl, hrp, hlp, hc8⟩
              obtain ⟨pa, pc, rfl⟩ := row.shape hrp
              have HE := Eqref_is (w := W8) oc pc (xs := l) (ys := l) (Sl.of_ints (HRO7.out.ch hc8 (by simp)) (by omega)) (Sl.of_ints hrp (by omega))
              simp only [decide_true] at HE
              clear HRf hrp hlp
              have HC8 := Lib.hid hc8; clear hc8
              go_wp2_with fail
              refine HE.mono ?_
              rintro e W9 ⟨rfl, hc9⟩
              have hc79 := HC8.out.trans hc9 (by simp)
              have HE2 := Eqbool_is (w := W9) tc vc (xs := vs) (ys := vs) (row.sv (HRL7.out.ch hc79 (by simp)) rfl (by omega)) (HV.out.ch (HCW7.out.trans hc79 (by simp)) (by simp))
              simp only [decide_true] at HE2
              have HC79 := Lib.hid hc79; clear hc79 hc9 HE
              go_wp2_with fail
              refine HE2.mono ?_
              rintro e W10 ⟨rfl, hc10⟩
              have HCF := Lib.hid ((HCW7.out.trans HC79.out (by simp)).trans hc10 (by simp))
              clear HE2 hc10
              go_wp2_with fail
              go_ret
              exact ⟨rfl, HCF.out⟩
set_option maxRecDepth 100000 in
set_option maxHeartbeats 8000000 in
theorem words23_tfF2 {x : Nat} (hx : x < 4294967296) {k0 : Nat} (hk0 : k0 ≤ 17) (hk1 : 1 ≤ k0) {la va : Option Addr} {l : List Int} {vs : List Bool} (lc vc : Nat) (hS : Sl w la l) (hV : Sb w va vs) (hl : l.length ≤ 30) (hm : vs.length ≤ 30) (hbd : ∀ r ∈ l, -9223372036854775808 ≤ r ∧ r ≤ 9223372036854775807) (hq : rightW l.length = false) (hv : 17 ≤ l.length) :
    Calls Tryz.prog 8 #[.int .u32 x, .int .i64 k0, .slice la l.length lc, .slice va vs.length vc] w fun e w' => e = .returned (.bool true) ∧ Ch [] w w' := by
  have hr : rightW (k0 : Int) = true := by unfold rightW; simp; omega
  have HRf := Refs23_is (w := w) l.length lc rfl hS (by omega)
  have HS := Lib.hid hS; clear hS
  have HV := Lib.hid hV; clear hV
  have HBD := Lib.hid hbd; clear hbd
  go_enter Tryz.func8, Tryz.ntmps8
  go_wp2_with fail
  refine HRf.mono ?_
  rintro e w1 ⟨vo, rfl, hro, hlo, hc1⟩
  obtain ⟨oa, oc, rfl⟩ := row.shape hro
  have HCB := Clbool_is (w := w1) vs.length vc rfl (HV.out.ch hc1 (by simp)) (by omega)
  go_wp2_with fail
  refine HCB.mono ?_
  rintro e w2 ⟨vl, rfl, hrl, hll, hc2⟩
  obtain ⟨ta, tc, rfl⟩ := row.shape hrl
  have HCo := sConst_is (w := w2) x hx k0
  rw [hr] at HCo
  simp only [if_true, Bool.false_eq_true, if_false, Int.toNat_natCast] at HCo
  go_wp2_with fail
  refine HCo.mono ?_
  rintro e w3 ⟨vcc, rfl, hnc⟩
  obtain ⟨ca, cc, rfl, hrc, hlc, hc3⟩ := hnc.parts (n := k0) (by simp [refsCells, constL])
  have hro3 := (hro.ch hc2 (by simp)).ch hc3 (by simp)
  have hwv : WVok w3 ⟨oa, l, oc⟩ := ⟨Sl.of_ints hro3 (by omega), HBD.out, by simp only; omega⟩
  have hcap : l.length ≤ oc := rowCap hro3
  have HCa := sCast_is hwv hcap k0
  simp only [hr, hq, WV.val, Bool.and_self, Bool.false_and, Bool.and_false, if_true, Bool.false_eq_true, if_false, Int.toNat_natCast] at HCa
  go_wp2_with fail
  refine HCa.mono ?_
  rintro e w4 ⟨vd, rfl, hnd⟩
  obtain ⟨da, dc, rfl, hrd, hld, hc4⟩ := hnd.parts (n := 0) (by simp [intCells, castL])
  have hrl4 := (hrl.ch hc3 (by simp)).ch hc4 (by simp)
  have HVa := sValue_is (w := w4) (x := ⟨oa, l, oc⟩) (by simp only; omega) (a := ta) (l := vs) tc (by omega) (row.sv hrl4 rfl (by omega))
  simp only [WV.val] at HVa
  rw [if_neg (by omega), if_neg (by omega)] at HVa
  go_wp2_with fail
  refine HVa.mono ?_
  rintro e w5 ⟨rfl, rfl⟩
  have HRi := r23Right_is (w := w4) k0
  rw [hr] at HRi
  go_wp2_with fail
  refine HRi.mono ?_
  rintro e w5 ⟨rfl, rfl⟩
  have HRj := r23Right_is (w := w4) l.length
  rw [hq] at HRj
  go_wp2_with fail
  refine HRj.mono ?_
  rintro e w5 ⟨rfl, rfl⟩
  have hro4 := hro3.ch hc4 (by simp)
  have hrc4 := hrc.ch hc4 (by simp)
  have hcw4 := ((hc1.trans hc2 (by simp)).trans hc3 (by simp)).trans hc4 (by simp)
  have hcw3 := (hc1.trans hc2 (by simp)).trans hc3 (by simp)
  have hown : ∀ k, (Value.slice oa l.length oc).ownBlock = some k ∨ (Value.slice ta vs.length tc).ownBlock = some k → k < w3.heap.size := fun k hk => by
    rcases hk with hk | hk
    · exact (hro3.lt k hk).2
    · exact ((hrl.ch hc3 (by simp)).lt k hk).2
  have HRO := Lib.hid hro4; clear hro hro3 hro4
  have HRL := Lib.hid hrl4; clear hrl hrl4
  have HRC := Lib.hid hrc4; clear hrc hrc4
  have HRD := Lib.hid hrd; clear hrd
  have HLD := Lib.hid hld; clear hld
  have HCW := Lib.hid hcw4; clear hcw4
  have HCW3 := Lib.hid hcw3; clear hcw3
  have HOW := Lib.hid hown
  clear hown HRf HCB HCo HCa HVa HRi hnc hnd hc1 hc2 hc3 hc4 hlo hll hlc hwv
  go_wp2_with fail
  go_loopw [89] (fun i wr => ∃ k : Nat, k ≤ 3 ∧ i = .int .i64 k ∧ wr = w4.alloc (.cells #[.int .i64 0, .int .i64 230, .int .i64 230] 36)) (fun i _ => 3 - (intOf i).toNat)
  case atStart => exact ⟨0, by omega, rfl, rfl⟩
  case round =>
    obtain ⟨k, hk, rfl, rfl⟩ := hrel
    by_cases hlt : k < 3
    · obtain ⟨ev, hev, hcell⟩ : ∃ ev : Int, (ev = 0 ∨ ev = 230) ∧ (w4.alloc (.cells #[.int .i64 0, .int .i64 230, .int .i64 230] 36)).cell? ⟨w4.heap.size, k, none⟩ = some (.int .i64 ev) := by
        have hb : blk (w4.alloc (.cells #[.int .i64 0, .int .i64 230, .int .i64 230] 36)) w4.heap.size [.int .i64 0, .int .i64 230, .int .i64 230] := blk.new' _ _ rfl
        rcases (show k = 0 ∨ k = 1 ∨ k = 2 by omega) with rfl | rfl | rfl <;> exact ⟨_, by simp, hb.cell rfl⟩
      rcases hev with rfl | rfl
      · go_wp2_with fail
        go_roundw
        case rel => exact ⟨k + 1, by omega, by go_num, trivial⟩
        case measure => simp [intOf]; omega
      · go_wp2_with fail
        go_roundw
        case rel => exact ⟨k + 1, by omega, by go_num, trivial⟩
        case measure => simp [intOf]; omega
    · obtain ⟨W5, hW5⟩ : ∃ W5, W5 = w4.alloc (.cells #[.int .i64 0, .int .i64 230, .int .i64 230] 36) := ⟨_, rfl⟩
      rw [← hW5]
      have hc5 := alw_ch hW5
      clear hW5
      have HRO5 := Lib.hid (HRO.out.ch hc5 (by simp))
      have HRL5 := Lib.hid (HRL.out.ch hc5 (by simp))
      have HRC5 := Lib.hid (HRC.out.ch hc5 (by simp))
      have HRD5 := Lib.hid (HRD.out.ch hc5 (by simp))
      have HCW5 := Lib.hid (HCW.out.trans hc5 (by simp))
      have HZ5 := Lib.hid hc5.size
      clear HRO HRL HRC HRD hc5
      have HI := Ints23_is (w := W5) (a := ca) (l := natInts (constL x k0)) k0 cc (by simp [natInts, constL]) (by have := HRC5.out; rw [refs_natInts] at this; exact Sl.of_ints this (by omega)) (by omega)
      go_wp2_with fail
      refine HI.mono ?_
      rintro e w6 ⟨vi, rfl, hri, hli, hc6⟩
      obtain ⟨ia, ic, rfl⟩ := row.shape hri
      have HQ := r23Const_is (w := w6) x hx k0 hk0
      clear HI
      go_wp2_with fail
      refine HQ.mono ?_
      rintro e w7 ⟨vq, rfl, hrq, hlq, hc7⟩
      obtain ⟨qa, qc, rfl⟩ := row.shape hrq
      clear HQ
      have HE := Eqint_is (w := w7) ic qc (xs := natInts (constL x k0)) (ys := natInts (rConstN x k0)) (Sl.of_ints (hri.ch hc7 (by simp)) (by omega)) (by rw [refs_natInts] at hrq; exact Sl.of_ints hrq (by omega))
      simp only [natInts_len, rConstN_eq, decide_true, show (constL x k0).length = k0 from by simp [constL]] at HE
      clear hri hli hrq hlq
      go_wp2_with fail
      refine HE.mono ?_
      rintro e w8 ⟨rfl, hc8⟩
      clear HE
      have HC := Lib.hid ((hc6.trans hc7 (by simp)).trans hc8 (by simp))
      clear hc6 hc7 hc8
      have HRO6 := Lib.hid (HRO5.out.ch HC.out (by simp))
      have HRL6 := Lib.hid (HRL5.out.ch HC.out (by simp))
      have HRD6 := Lib.hid (HRD5.out.ch HC.out (by simp))
      have HCW6 := Lib.hid (HCW5.out.trans HC.out (by simp))
      clear HRO5 HRL5 HRC5 HRD5
      obtain ⟨W6, hW6⟩ : ∃ W6, W6 = w8 := ⟨_, rfl⟩
      rw [← hW6] at HRO6 HRL6 HRD6 HCW6 HC
      try rw [← hW6]
      clear hW6
      go_wp2_with fail
      go_loopw [21, 22] (fun x i wr => i = .int .i64 ((vs.length : Int) - 1) ∧ W6 = wr ∧ x = .int .u32 0) (fun _ i _ => 0)
      case atStart => exact ⟨rfl, rfl, rfl⟩
      case round =>
        obtain ⟨rfl, rfl, rfl⟩ := hrel
        by_cases h0 : vs.length < 1
        · have hd0 : decide ((0 : Int) ≤ (vs.length : Int) - 1) = false := decide_eq_false (by omega)
          go_wp2_with fail
          go_loopw [162] (fun i wr => ∃ k : Nat, k ≤ 0 ∧ i = .int .i64 k ∧ Ch (Value.slice da 0 dc).ownBlock.toList W6 wr ∧ ∀ j, j < 0 → ∃ (b : Nat) (ys : List Value), da = some ⟨b, 0, none⟩ ∧ blk wr b ys ∧ 0 ≤ ys.length) (fun i _ => 0 - (intOf i).toNat)
          case atStart => exact ⟨0, by omega, rfl, Ch.refl _ _, rowBlk HRD6.out⟩
          case round =>
            obtain ⟨k, hk, rfl, hc, hbb⟩ := hrel
            by_cases hlt : k < 0
            · exact absurd hlt (by omega)
            · have hld : ∀ q ∈ (Value.slice da 0 dc).ownBlock.toList, w3.heap.size ≤ q := HLD.out
              have hz3 := HCW3.out.size
              have hcw7 : Ch [] w wr := HCW6.out.trans hc (fun q hq => .inr (by have := hld q hq; omega))
              have hro7 := HRO6.out.ch hc (fun k hk hk2 => by have := HOW.out k (.inl hk); have := hld k hk2; omega)
              have hrl7 := HRL6.out.ch hc (fun k hk hk2 => by have := HOW.out k (.inr hk); have := hld k hk2; omega)
              have hkd : k = 0 := by omega
              have HCW7 := Lib.hid hcw7; clear hcw7 hc hbb
              have HRO7 := Lib.hid hro7; clear hro7
              have HRL7 := Lib.hid hrl7; clear hrl7
              clear HRO6 HRL6 HRD6 HCW6
              have HRf := Refs23_is (w := wr) l.length lc rfl (HS.out.ch HCW7.out (by simp)) (by omega)
              go_wp2_with fail
              refine HRf.mono ?_
              rintro e W8 ⟨vo, rfl, hrp, hlp, hc8⟩
              obtain ⟨pa, pc, rfl⟩ := row.shape hrp
              have HE := Eqref_is (w := W8) oc pc (xs := l) (ys := l) (Sl.of_ints (HRO7.out.ch hc8 (by simp)) (by omega)) (Sl.of_ints hrp (by omega))
              simp only [decide_true] at HE
              clear HRf hrp hlp
              have HC8 := Lib.hid hc8; clear hc8
              go_wp2_with fail
              refine HE.mono ?_
              rintro e W9 ⟨rfl, hc9⟩
              have hc79 := HC8.out.trans hc9 (by simp)
              have HE2 := Eqbool_is (w := W9) tc vc (xs := vs) (ys := vs) (row.sv (HRL7.out.ch hc79 (by simp)) rfl (by omega)) (HV.out.ch (HCW7.out.trans hc79 (by simp)) (by simp))
              simp only [decide_true] at HE2
              have HC79 := Lib.hid hc79; clear hc79 hc9 HE
              go_wp2_with fail
              refine HE2.mono ?_
              rintro e W10 ⟨rfl, hc10⟩
              have HCF := Lib.hid ((HCW7.out.trans HC79.out (by simp)).trans hc10 (by simp))
              clear HE2 hc10
              go_wp2_with fail
              go_ret
              exact ⟨rfl, HCF.out⟩
        · have hd0 : decide ((0 : Int) ≤ (vs.length : Int) - 1) = true := decide_eq_true (by omega)
          have h1 : 1 ≤ vs.length := by omega
          clear h0
          go_wp2_with fail
          go_loopw [162] (fun i wr => ∃ k : Nat, k ≤ 0 ∧ i = .int .i64 k ∧ Ch (Value.slice da 0 dc).ownBlock.toList W6 wr ∧ ∀ j, j < 0 → ∃ (b : Nat) (ys : List Value), da = some ⟨b, 0, none⟩ ∧ blk wr b ys ∧ 0 ≤ ys.length) (fun i _ => 0 - (intOf i).toNat)
          case atStart => exact ⟨0, by omega, rfl, Ch.refl _ _, rowBlk HRD6.out⟩
          case round =>
            obtain ⟨k, hk, rfl, hc, hbb⟩ := hrel
            by_cases hlt : k < 0
            · exact absurd hlt (by omega)
            · have hld : ∀ q ∈ (Value.slice da 0 dc).ownBlock.toList, w3.heap.size ≤ q := HLD.out
              have hz3 := HCW3.out.size
              have hcw7 : Ch [] w wr := HCW6.out.trans hc (fun q hq => .inr (by have := hld q hq; omega))
              have hro7 := HRO6.out.ch hc (fun k hk hk2 => by have := HOW.out k (.inl hk); have := hld k hk2; omega)
              have hrl7 := HRL6.out.ch hc (fun k hk hk2 => by have := HOW.out k (.inr hk); have := hld k hk2; omega)
              have hkd : k = 0 := by omega
              have HCW7 := Lib.hid hcw7; clear hcw7 hc hbb
              have HRO7 := Lib.hid hro7; clear hro7
              have HRL7 := Lib.hid hrl7; clear hrl7
              clear HRO6 HRL6 HRD6 HCW6
              have HRf := Refs23_is (w := wr) l.length lc rfl (HS.out.ch HCW7.out (by simp)) (by omega)
              go_wp2_with fail
              refine HRf.mono ?_
              rintro e W8 ⟨vo, rfl, hrp, hlp, hc8⟩
              obtain ⟨pa, pc, rfl⟩ := row.shape hrp
              have HE := Eqref_is (w := W8) oc pc (xs := l) (ys := l) (Sl.of_ints (HRO7.out.ch hc8 (by simp)) (by omega)) (Sl.of_ints hrp (by omega))
              simp only [decide_true] at HE
              clear HRf hrp hlp
              have HC8 := Lib.hid hc8; clear hc8
              go_wp2_with fail
              refine HE.mono ?_
              rintro e W9 ⟨rfl, hc9⟩
              have hc79 := HC8.out.trans hc9 (by simp)
              have HE2 := Eqbool_is (w := W9) tc vc (xs := vs) (ys := vs) (row.sv (HRL7.out.ch hc79 (by simp)) rfl (by omega)) (HV.out.ch (HCW7.out.trans hc79 (by simp)) (by simp))
              simp only [decide_true] at HE2
              have HC79 := Lib.hid hc79; clear hc79 hc9 HE
              go_wp2_with fail
              refine HE2.mono ?_
              rintro e W10 ⟨rfl, hc10⟩
              have HCF := Lib.hid ((HCW7.out.trans HC79.out (by simp)).trans hc10 (by simp))
              clear HE2 hc10
              go_wp2_with fail
              go_ret
              exact ⟨rfl, HCF.out⟩
set_option maxRecDepth 100000 in
set_option maxHeartbeats 8000000 in
theorem words23_ttT {x : Nat} (hx : x < 4294967296) {k0 : Nat} (hk0 : k0 ≤ 17) (hk1 : 1 ≤ k0) {la va : Option Addr} {l : List Int} {vs : List Bool} (lc vc : Nat) (hS : Sl w la l) (hV : Sb w va vs) (hl : l.length ≤ 30) (hm : vs.length ≤ 30) (hbd : ∀ r ∈ l, -9223372036854775808 ≤ r ∧ r ≤ 9223372036854775807) (hq1 : 1 ≤ l.length) (hq2 : l.length ≤ 17) (hv1 : 1 ≤ l.length) (hv2 : l.length ≤ 16) (hv3 : vs.length = l.length) :
    Calls Tryz.prog 8 #[.int .u32 x, .int .i64 k0, .slice la l.length lc, .slice va vs.length vc] w fun e w' => e = .returned (.bool true) ∧ Ch [] w w' := by
  have hr : rightW (k0 : Int) = true := by unfold rightW; simp; omega
  have hq : rightW (l.length : Int) = true := by unfold rightW; simp; omega
  have HRf := Refs23_is (w := w) l.length lc rfl hS (by omega)
  have HS := Lib.hid hS; clear hS
  have HV := Lib.hid hV; clear hV
  have HBD := Lib.hid hbd; clear hbd
  have hbq : ((vs.length : Int) == (l.length : Int)) = true := beqI (by omega)
  have HV3 := Lib.hid hv3; clear hv3
  go_enter Tryz.func8, Tryz.ntmps8
  go_wp2_with fail
  refine HRf.mono ?_
  rintro e w1 ⟨vo, rfl, hro, hlo, hc1⟩
  obtain ⟨oa, oc, rfl⟩ := row.shape hro
  have HCB := Clbool_is (w := w1) vs.length vc rfl (HV.out.ch hc1 (by simp)) (by omega)
  go_wp2_with fail
  refine HCB.mono ?_
  rintro e w2 ⟨vl, rfl, hrl, hll, hc2⟩
  obtain ⟨ta, tc, rfl⟩ := row.shape hrl
  have HCo := sConst_is (w := w2) x hx k0
  rw [hr] at HCo
  simp only [if_true, Bool.false_eq_true, if_false, Int.toNat_natCast] at HCo
  go_wp2_with fail
  refine HCo.mono ?_
  rintro e w3 ⟨vcc, rfl, hnc⟩
  obtain ⟨ca, cc, rfl, hrc, hlc, hc3⟩ := hnc.parts (n := k0) (by simp [refsCells, constL])
  have hro3 := (hro.ch hc2 (by simp)).ch hc3 (by simp)
  have hwv : WVok w3 ⟨oa, l, oc⟩ := ⟨Sl.of_ints hro3 (by omega), HBD.out, by simp only; omega⟩
  have hcap : l.length ≤ oc := rowCap hro3
  have HCa := sCast_is hwv hcap k0
  simp only [hr, hq, WV.val, Bool.and_self, Bool.false_and, Bool.and_false, if_true, Bool.false_eq_true, if_false, Int.toNat_natCast] at HCa
  go_wp2_with fail
  refine HCa.mono ?_
  rintro e w4 ⟨vd, rfl, hnd⟩
  obtain ⟨da, dc, rfl, hrd, hld, hc4⟩ := hnd.parts (n := k0) (by simp [intCells, castL]; omega)
  have hrl4 := (hrl.ch hc3 (by simp)).ch hc4 (by simp)
  have HVa := sValue_is (w := w4) (x := ⟨oa, l, oc⟩) (by simp only; omega) (a := ta) (l := vs) tc (by omega) (row.sv hrl4 rfl (by omega))
  simp only [WV.val] at HVa
  rw [if_pos ⟨by have := HV3.out; omega, by have := HV3.out; omega, HV3.out⟩, if_pos ⟨by have := HV3.out; omega, by have := HV3.out; omega, HV3.out⟩] at HVa
  go_wp2_with fail
  refine HVa.mono ?_
  rintro e w5 ⟨rfl, rfl⟩
  have HRi := r23Right_is (w := w4) k0
  rw [hr] at HRi
  go_wp2_with fail
  refine HRi.mono ?_
  rintro e w5 ⟨rfl, rfl⟩
  have HRj := r23Right_is (w := w4) l.length
  rw [hq] at HRj
  go_wp2_with fail
  refine HRj.mono ?_
  rintro e w5 ⟨rfl, rfl⟩
  have hro4 := hro3.ch hc4 (by simp)
  have hrc4 := hrc.ch hc4 (by simp)
  have hcw4 := ((hc1.trans hc2 (by simp)).trans hc3 (by simp)).trans hc4 (by simp)
  have hcw3 := (hc1.trans hc2 (by simp)).trans hc3 (by simp)
  have hown : ∀ k, (Value.slice oa l.length oc).ownBlock = some k ∨ (Value.slice ta vs.length tc).ownBlock = some k → k < w3.heap.size := fun k hk => by
    rcases hk with hk | hk
    · exact (hro3.lt k hk).2
    · exact ((hrl.ch hc3 (by simp)).lt k hk).2
  have HRO := Lib.hid hro4; clear hro hro3 hro4
  have HRL := Lib.hid hrl4; clear hrl hrl4
  have HRC := Lib.hid hrc4; clear hrc hrc4
  have HRD := Lib.hid hrd; clear hrd
  have HLD := Lib.hid hld; clear hld
  have HCW := Lib.hid hcw4; clear hcw4
  have HCW3 := Lib.hid hcw3; clear hcw3
  have HOW := Lib.hid hown
  clear hown HRf HCB HCo HCa HVa HRi hnc hnd hc1 hc2 hc3 hc4 hlo hll hlc hwv
  go_wp2_with fail
  go_loopw [89] (fun i wr => ∃ k : Nat, k ≤ 3 ∧ i = .int .i64 k ∧ wr = w4.alloc (.cells #[.int .i64 0, .int .i64 0, .int .i64 0] 36)) (fun i _ => 3 - (intOf i).toNat)
  case atStart => exact ⟨0, by omega, rfl, rfl⟩
  case round =>
    obtain ⟨k, hk, rfl, rfl⟩ := hrel
    by_cases hlt : k < 3
    · obtain ⟨ev, hev, hcell⟩ : ∃ ev : Int, (ev = 0 ∨ ev = 230) ∧ (w4.alloc (.cells #[.int .i64 0, .int .i64 0, .int .i64 0] 36)).cell? ⟨w4.heap.size, k, none⟩ = some (.int .i64 ev) := by
        have hb : blk (w4.alloc (.cells #[.int .i64 0, .int .i64 0, .int .i64 0] 36)) w4.heap.size [.int .i64 0, .int .i64 0, .int .i64 0] := blk.new' _ _ rfl
        rcases (show k = 0 ∨ k = 1 ∨ k = 2 by omega) with rfl | rfl | rfl <;> exact ⟨_, by simp, hb.cell rfl⟩
      rcases hev with rfl | rfl
      · go_wp2_with fail
        go_roundw
        case rel => exact ⟨k + 1, by omega, by go_num, trivial⟩
        case measure => simp [intOf]; omega
      · go_wp2_with fail
        go_roundw
        case rel => exact ⟨k + 1, by omega, by go_num, trivial⟩
        case measure => simp [intOf]; omega
    · obtain ⟨W5, hW5⟩ : ∃ W5, W5 = w4.alloc (.cells #[.int .i64 0, .int .i64 0, .int .i64 0] 36) := ⟨_, rfl⟩
      rw [← hW5]
      have hc5 := alw_ch hW5
      clear hW5
      have HRO5 := Lib.hid (HRO.out.ch hc5 (by simp))
      have HRL5 := Lib.hid (HRL.out.ch hc5 (by simp))
      have HRC5 := Lib.hid (HRC.out.ch hc5 (by simp))
      have HRD5 := Lib.hid (HRD.out.ch hc5 (by simp))
      have HCW5 := Lib.hid (HCW.out.trans hc5 (by simp))
      have HZ5 := Lib.hid hc5.size
      clear HRO HRL HRC HRD hc5
      have HI := Ints23_is (w := W5) (a := ca) (l := natInts (constL x k0)) k0 cc (by simp [natInts, constL]) (by have := HRC5.out; rw [refs_natInts] at this; exact Sl.of_ints this (by omega)) (by omega)
      go_wp2_with fail
      refine HI.mono ?_
      rintro e w6 ⟨vi, rfl, hri, hli, hc6⟩
      obtain ⟨ia, ic, rfl⟩ := row.shape hri
      have HQ := r23Const_is (w := w6) x hx k0 hk0
      clear HI
      go_wp2_with fail
      refine HQ.mono ?_
      rintro e w7 ⟨vq, rfl, hrq, hlq, hc7⟩
      obtain ⟨qa, qc, rfl⟩ := row.shape hrq
      clear HQ
      have HE := Eqint_is (w := w7) ic qc (xs := natInts (constL x k0)) (ys := natInts (rConstN x k0)) (Sl.of_ints (hri.ch hc7 (by simp)) (by omega)) (by rw [refs_natInts] at hrq; exact Sl.of_ints hrq (by omega))
      simp only [natInts_len, rConstN_eq, decide_true, show (constL x k0).length = k0 from by simp [constL]] at HE
      clear hri hli hrq hlq
      go_wp2_with fail
      refine HE.mono ?_
      rintro e w8 ⟨rfl, hc8⟩
      clear HE
      have hc58 := (hc6.trans hc7 (by simp)).trans hc8 (by simp)
      have HI := Ints23_is (w := w8) (a := da) (l := castL l k0) k0 dc (by simp [castL]; omega) (Sl.of_ints (HRD5.out.ch hc58 (by simp)) (by omega)) (by omega)
      have HC58 := Lib.hid hc58; clear hc58 hc6 hc7 hc8
      go_wp2_with fail
      refine HI.mono ?_
      rintro e w9 ⟨vi, rfl, hri, hli, hc9⟩
      obtain ⟨ja, jc, rfl⟩ := row.shape hri
      have HQ := r23Cast_is (w := w9) (a := la) l.length lc rfl (HS.out.ch ((HCW5.out.trans HC58.out (by simp)).trans hc9 (by simp)) (by simp)) k0 hk0 (by omega)
      clear HI
      go_wp2_with fail
      refine HQ.mono ?_
      rintro e w10 ⟨vq, rfl, hrq, hlq, hc10⟩
      obtain ⟨ra, rc, rfl⟩ := row.shape hrq
      clear HQ
      have HE := Eqint_is (w := w10) jc rc (xs := castL l k0) (ys := rCastL l k0) (Sl.of_ints (hri.ch hc10 (by simp)) (by omega)) (Sl.of_ints hrq (by omega))
      simp only [castL_eq, decide_true, show (rCastL l k0).length = k0 from by simp [rCastL]] at HE
      clear hri hli hrq hlq
      go_wp2_with fail
      refine HE.mono ?_
      rintro e w11 ⟨rfl, hc11⟩
      clear HE
      have HC := Lib.hid (((HC58.out.trans hc9 (by simp)).trans hc10 (by simp)).trans hc11 (by simp))
      clear hc9 hc10 hc11 HC58
      have HRO6 := Lib.hid (HRO5.out.ch HC.out (by simp))
      have HRL6 := Lib.hid (HRL5.out.ch HC.out (by simp))
      have HRD6 := Lib.hid (HRD5.out.ch HC.out (by simp))
      have HCW6 := Lib.hid (HCW5.out.trans HC.out (by simp))
      clear HRO5 HRL5 HRC5 HRD5
      obtain ⟨W6, hW6⟩ : ∃ W6, W6 = w11 := ⟨_, rfl⟩
      rw [← hW6] at HRO6 HRL6 HRD6 HCW6 HC
      try rw [← hW6]
      clear hW6
      go_wp2_with fail
      go_loopw [21, 22] (fun x i wr => ∃ j : Nat, j ≤ vs.length ∧ i = .int .i64 ((j : Int) - 1) ∧ W6 = wr ∧ x = .int .u32 (bitsVal (vs.drop j))) (fun _ i _ => (intOf i + 1).toNat)
      case atStart => exact ⟨vs.length, by omega, by go_num, rfl, by simp [bitsVal]⟩
      case round =>
        obtain ⟨j, hj, rfl, rfl, rfl⟩ := hrel
        cases j with
        | zero =>
          have hd0 : bitsVal (vs.drop 0) = bitsVal vs := rfl
          rw [hd0]
          clear hd0
          go_wp2_with fail
          go_loopw [162] (fun i wr => ∃ k : Nat, k ≤ k0 ∧ i = .int .i64 k ∧ Ch (Value.slice da k0 dc).ownBlock.toList W6 wr ∧ ∀ j, j < k0 → ∃ (b : Nat) (ys : List Value), da = some ⟨b, 0, none⟩ ∧ blk wr b ys ∧ k0 ≤ ys.length) (fun i _ => k0 - (intOf i).toNat)
          case atStart => exact ⟨0, by omega, rfl, Ch.refl _ _, rowBlk HRD6.out⟩
          case round =>
            obtain ⟨k, hk, rfl, hc, hbb⟩ := hrel
            by_cases hlt : k < k0
            · obtain ⟨b, ys, rfl, hb, hyl⟩ := hbb k hlt
              have hold := hb.cell (List.getElem?_eq_getElem (show k < ys.length by omega))
              have hfz := hb.frozen (i := k)
              have hb2 := hb.set (i := k) (.int .i64 (-5))
              have HB2 := Lib.hid hb2; clear hb2 hbb hb
              have HC9 := Lib.hid hc; clear hc
              generalize ys[k] = old at *
              go_wp2_with fail
              go_roundw
              case rel => exact ⟨k + 1, by omega, by go_num, HC9.out.setCell (by simp) _, fun _ _ => ⟨b, _, rfl, HB2.out, by simpa using hyl⟩⟩
              case measure => simp [intOf]; omega
            · have hld : ∀ q ∈ (Value.slice da k0 dc).ownBlock.toList, w3.heap.size ≤ q := HLD.out
              have hz3 := HCW3.out.size
              have hcw7 : Ch [] w wr := HCW6.out.trans hc (fun q hq => .inr (by have := hld q hq; omega))
              have hro7 := HRO6.out.ch hc (fun k hk hk2 => by have := HOW.out k (.inl hk); have := hld k hk2; omega)
              have hrl7 := HRL6.out.ch hc (fun k hk hk2 => by have := HOW.out k (.inr hk); have := hld k hk2; omega)
              have hkd : k = k0 := by omega
              have HCW7 := Lib.hid hcw7; clear hcw7 hc hbb
              have HRO7 := Lib.hid hro7; clear hro7
              have HRL7 := Lib.hid hrl7; clear hrl7
              clear HRO6 HRL6 HRD6 HCW6
              have HRf := Refs23_is (w := wr) l.length lc rfl (HS.out.ch HCW7.out (by simp)) (by omega)
              go_wp2_with fail
              refine HRf.mono ?_
              rintro e W8 ⟨vo, rfl, hrp, hlp, hc8⟩
              obtain ⟨pa, pc, rfl⟩ := row.shape hrp
              have HE := Eqref_is (w := W8) oc pc (xs := l) (ys := l) (Sl.of_ints (HRO7.out.ch hc8 (by simp)) (by omega)) (Sl.of_ints hrp (by omega))
              simp only [decide_true] at HE
              clear HRf hrp hlp
              have HC8 := Lib.hid hc8; clear hc8
              go_wp2_with fail
              refine HE.mono ?_
              rintro e W9 ⟨rfl, hc9⟩
              have hc79 := HC8.out.trans hc9 (by simp)
              have HE2 := Eqbool_is (w := W9) tc vc (xs := vs) (ys := vs) (row.sv (HRL7.out.ch hc79 (by simp)) rfl (by omega)) (HV.out.ch (HCW7.out.trans hc79 (by simp)) (by simp))
              simp only [decide_true] at HE2
              have HC79 := Lib.hid hc79; clear hc79 hc9 HE
              go_wp2_with fail
              refine HE2.mono ?_
              rintro e W10 ⟨rfl, hc10⟩
              have HCF := Lib.hid ((HCW7.out.trans HC79.out (by simp)).trans hc10 (by simp))
              clear HE2 hc10
              go_wp2_with fail
              go_ret
              exact ⟨rfl, HCF.out⟩
        | succ j =>
          have ej : (((j + 1 : Nat) : Int) - 1) = (j : Int) := by omega
          rw [ej]
          have hd2 : decide ((0 : Int) ≤ j) = true := decide_eq_true (by omega)
          obtain ⟨b, hb⟩ : ∃ b, vs[j]? = some b := ⟨_, List.getElem?_eq_getElem (by omega)⟩
          obtain ⟨xb, xo, rfl, hcl⟩ := HV.out.cells j (.bool b) (by simp [hb])
          have c0 := (HCW6.out.cell (cell_lt hcl) (by simp)).trans hcl
          have hs := bitsVal_drop hb
          have hlt := bitsVal_drop_lt (l := vs) (by have := HV3.out; omega) (j + 1)
          generalize hX : bitsVal (vs.drop (j + 1)) = X at *
          have HSS := Lib.hid hs; clear hs hX hb hcl ej
          cases b
          · go_wp2_with fail
            go_roundw
            case rel => exact ⟨j, by omega, by go_num, trivial, by first | (rw [HSS.out]; done) | (rw [HSS.out]; go_num)⟩
            case measure => simp [intOf] <;> omega
          · go_wp2_with fail
            go_roundw
            case rel => exact ⟨j, by omega, by go_num, trivial, by first | (rw [HSS.out]; done) | (rw [HSS.out]; go_num)⟩
            case measure => simp [intOf] <;> omega
set_option maxRecDepth 100000 in
set_option maxHeartbeats 8000000 in
theorem words23_ttF2 {x : Nat} (hx : x < 4294967296) {k0 : Nat} (hk0 : k0 ≤ 17) (hk1 : 1 ≤ k0) {la va : Option Addr} {l : List Int} {vs : List Bool} (lc vc : Nat) (hS : Sl w la l) (hV : Sb w va vs) (hl : l.length ≤ 30) (hm : vs.length ≤ 30) (hbd : ∀ r ∈ l, -9223372036854775808 ≤ r ∧ r ≤ 9223372036854775807) (hq1 : 1 ≤ l.length) (hq2 : l.length ≤ 17) (hv : 17 ≤ l.length) :
    Calls Tryz.prog 8 #[.int .u32 x, .int .i64 k0, .slice la l.length lc, .slice va vs.length vc] w fun e w' => e = .returned (.bool true) ∧ Ch [] w w' := by
  have hr : rightW (k0 : Int) = true := by unfold rightW; simp; omega
  have hq : rightW (l.length : Int) = true := by unfold rightW; simp; omega
  have HRf := Refs23_is (w := w) l.length lc rfl hS (by omega)
  have HS := Lib.hid hS; clear hS
  have HV := Lib.hid hV; clear hV
  have HBD := Lib.hid hbd; clear hbd
  go_enter Tryz.func8, Tryz.ntmps8
  go_wp2_with fail
  refine HRf.mono ?_
  rintro e w1 ⟨vo, rfl, hro, hlo, hc1⟩
  obtain ⟨oa, oc, rfl⟩ := row.shape hro
  have HCB := Clbool_is (w := w1) vs.length vc rfl (HV.out.ch hc1 (by simp)) (by omega)
  go_wp2_with fail
  refine HCB.mono ?_
  rintro e w2 ⟨vl, rfl, hrl, hll, hc2⟩
  obtain ⟨ta, tc, rfl⟩ := row.shape hrl
  have HCo := sConst_is (w := w2) x hx k0
  rw [hr] at HCo
  simp only [if_true, Bool.false_eq_true, if_false, Int.toNat_natCast] at HCo
  go_wp2_with fail
  refine HCo.mono ?_
  rintro e w3 ⟨vcc, rfl, hnc⟩
  obtain ⟨ca, cc, rfl, hrc, hlc, hc3⟩ := hnc.parts (n := k0) (by simp [refsCells, constL])
  have hro3 := (hro.ch hc2 (by simp)).ch hc3 (by simp)
  have hwv : WVok w3 ⟨oa, l, oc⟩ := ⟨Sl.of_ints hro3 (by omega), HBD.out, by simp only; omega⟩
  have hcap : l.length ≤ oc := rowCap hro3
  have HCa := sCast_is hwv hcap k0
  simp only [hr, hq, WV.val, Bool.and_self, Bool.false_and, Bool.and_false, if_true, Bool.false_eq_true, if_false, Int.toNat_natCast] at HCa
  go_wp2_with fail
  refine HCa.mono ?_
  rintro e w4 ⟨vd, rfl, hnd⟩
  obtain ⟨da, dc, rfl, hrd, hld, hc4⟩ := hnd.parts (n := k0) (by simp [intCells, castL]; omega)
  have hrl4 := (hrl.ch hc3 (by simp)).ch hc4 (by simp)
  have HVa := sValue_is (w := w4) (x := ⟨oa, l, oc⟩) (by simp only; omega) (a := ta) (l := vs) tc (by omega) (row.sv hrl4 rfl (by omega))
  simp only [WV.val] at HVa
  rw [if_neg (by omega), if_neg (by omega)] at HVa
  go_wp2_with fail
  refine HVa.mono ?_
  rintro e w5 ⟨rfl, rfl⟩
  have HRi := r23Right_is (w := w4) k0
  rw [hr] at HRi
  go_wp2_with fail
  refine HRi.mono ?_
  rintro e w5 ⟨rfl, rfl⟩
  have HRj := r23Right_is (w := w4) l.length
  rw [hq] at HRj
  go_wp2_with fail
  refine HRj.mono ?_
  rintro e w5 ⟨rfl, rfl⟩
  have hro4 := hro3.ch hc4 (by simp)
  have hrc4 := hrc.ch hc4 (by simp)
  have hcw4 := ((hc1.trans hc2 (by simp)).trans hc3 (by simp)).trans hc4 (by simp)
  have hcw3 := (hc1.trans hc2 (by simp)).trans hc3 (by simp)
  have hown : ∀ k, (Value.slice oa l.length oc).ownBlock = some k ∨ (Value.slice ta vs.length tc).ownBlock = some k → k < w3.heap.size := fun k hk => by
    rcases hk with hk | hk
    · exact (hro3.lt k hk).2
    · exact ((hrl.ch hc3 (by simp)).lt k hk).2
  have HRO := Lib.hid hro4; clear hro hro3 hro4
  have HRL := Lib.hid hrl4; clear hrl hrl4
  have HRC := Lib.hid hrc4; clear hrc hrc4
  have HRD := Lib.hid hrd; clear hrd
  have HLD := Lib.hid hld; clear hld
  have HCW := Lib.hid hcw4; clear hcw4
  have HCW3 := Lib.hid hcw3; clear hcw3
  have HOW := Lib.hid hown
  clear hown HRf HCB HCo HCa HVa HRi hnc hnd hc1 hc2 hc3 hc4 hlo hll hlc hwv
  go_wp2_with fail
  go_loopw [89] (fun i wr => ∃ k : Nat, k ≤ 3 ∧ i = .int .i64 k ∧ wr = w4.alloc (.cells #[.int .i64 0, .int .i64 0, .int .i64 230] 36)) (fun i _ => 3 - (intOf i).toNat)
  case atStart => exact ⟨0, by omega, rfl, rfl⟩
  case round =>
    obtain ⟨k, hk, rfl, rfl⟩ := hrel
    by_cases hlt : k < 3
    · obtain ⟨ev, hev, hcell⟩ : ∃ ev : Int, (ev = 0 ∨ ev = 230) ∧ (w4.alloc (.cells #[.int .i64 0, .int .i64 0, .int .i64 230] 36)).cell? ⟨w4.heap.size, k, none⟩ = some (.int .i64 ev) := by
        have hb : blk (w4.alloc (.cells #[.int .i64 0, .int .i64 0, .int .i64 230] 36)) w4.heap.size [.int .i64 0, .int .i64 0, .int .i64 230] := blk.new' _ _ rfl
        rcases (show k = 0 ∨ k = 1 ∨ k = 2 by omega) with rfl | rfl | rfl <;> exact ⟨_, by simp, hb.cell rfl⟩
      rcases hev with rfl | rfl
      · go_wp2_with fail
        go_roundw
        case rel => exact ⟨k + 1, by omega, by go_num, trivial⟩
        case measure => simp [intOf]; omega
      · go_wp2_with fail
        go_roundw
        case rel => exact ⟨k + 1, by omega, by go_num, trivial⟩
        case measure => simp [intOf]; omega
    · obtain ⟨W5, hW5⟩ : ∃ W5, W5 = w4.alloc (.cells #[.int .i64 0, .int .i64 0, .int .i64 230] 36) := ⟨_, rfl⟩
      rw [← hW5]
      have hc5 := alw_ch hW5
      clear hW5
      have HRO5 := Lib.hid (HRO.out.ch hc5 (by simp))
      have HRL5 := Lib.hid (HRL.out.ch hc5 (by simp))
      have HRC5 := Lib.hid (HRC.out.ch hc5 (by simp))
      have HRD5 := Lib.hid (HRD.out.ch hc5 (by simp))
      have HCW5 := Lib.hid (HCW.out.trans hc5 (by simp))
      have HZ5 := Lib.hid hc5.size
      clear HRO HRL HRC HRD hc5
      have HI := Ints23_is (w := W5) (a := ca) (l := natInts (constL x k0)) k0 cc (by simp [natInts, constL]) (by have := HRC5.out; rw [refs_natInts] at this; exact Sl.of_ints this (by omega)) (by omega)
      go_wp2_with fail
      refine HI.mono ?_
      rintro e w6 ⟨vi, rfl, hri, hli, hc6⟩
      obtain ⟨ia, ic, rfl⟩ := row.shape hri
      have HQ := r23Const_is (w := w6) x hx k0 hk0
      clear HI
      go_wp2_with fail
      refine HQ.mono ?_
      rintro e w7 ⟨vq, rfl, hrq, hlq, hc7⟩
      obtain ⟨qa, qc, rfl⟩ := row.shape hrq
      clear HQ
      have HE := Eqint_is (w := w7) ic qc (xs := natInts (constL x k0)) (ys := natInts (rConstN x k0)) (Sl.of_ints (hri.ch hc7 (by simp)) (by omega)) (by rw [refs_natInts] at hrq; exact Sl.of_ints hrq (by omega))
      simp only [natInts_len, rConstN_eq, decide_true, show (constL x k0).length = k0 from by simp [constL]] at HE
      clear hri hli hrq hlq
      go_wp2_with fail
      refine HE.mono ?_
      rintro e w8 ⟨rfl, hc8⟩
      clear HE
      have hc58 := (hc6.trans hc7 (by simp)).trans hc8 (by simp)
      have HI := Ints23_is (w := w8) (a := da) (l := castL l k0) k0 dc (by simp [castL]; omega) (Sl.of_ints (HRD5.out.ch hc58 (by simp)) (by omega)) (by omega)
      have HC58 := Lib.hid hc58; clear hc58 hc6 hc7 hc8
      go_wp2_with fail
      refine HI.mono ?_
      rintro e w9 ⟨vi, rfl, hri, hli, hc9⟩
      obtain ⟨ja, jc, rfl⟩ := row.shape hri
      have HQ := r23Cast_is (w := w9) (a := la) l.length lc rfl (HS.out.ch ((HCW5.out.trans HC58.out (by simp)).trans hc9 (by simp)) (by simp)) k0 hk0 (by omega)
      clear HI
      go_wp2_with fail
      refine HQ.mono ?_
      rintro e w10 ⟨vq, rfl, hrq, hlq, hc10⟩
      obtain ⟨ra, rc, rfl⟩ := row.shape hrq
      clear HQ
      have HE := Eqint_is (w := w10) jc rc (xs := castL l k0) (ys := rCastL l k0) (Sl.of_ints (hri.ch hc10 (by simp)) (by omega)) (Sl.of_ints hrq (by omega))
      simp only [castL_eq, decide_true, show (rCastL l k0).length = k0 from by simp [rCastL]] at HE
      clear hri hli hrq hlq
      go_wp2_with fail
      refine HE.mono ?_
      rintro e w11 ⟨rfl, hc11⟩
      clear HE
      have HC := Lib.hid (((HC58.out.trans hc9 (by simp)).trans hc10 (by simp)).trans hc11 (by simp))
      clear hc9 hc10 hc11 HC58
      have HRO6 := Lib.hid (HRO5.out.ch HC.out (by simp))
      have HRL6 := Lib.hid (HRL5.out.ch HC.out (by simp))
      have HRD6 := Lib.hid (HRD5.out.ch HC.out (by simp))
      have HCW6 := Lib.hid (HCW5.out.trans HC.out (by simp))
      clear HRO5 HRL5 HRC5 HRD5
      obtain ⟨W6, hW6⟩ : ∃ W6, W6 = w11 := ⟨_, rfl⟩
      rw [← hW6] at HRO6 HRL6 HRD6 HCW6 HC
      try rw [← hW6]
      clear hW6
      go_wp2_with fail
      go_loopw [21, 22] (fun x i wr => i = .int .i64 ((vs.length : Int) - 1) ∧ W6 = wr ∧ x = .int .u32 0) (fun _ i _ => 0)
      case atStart => exact ⟨rfl, rfl, rfl⟩
      case round =>
        obtain ⟨rfl, rfl, rfl⟩ := hrel
        by_cases h0 : vs.length < 1
        · have hd0 : decide ((0 : Int) ≤ (vs.length : Int) - 1) = false := decide_eq_false (by omega)
          go_wp2_with fail
          go_loopw [162] (fun i wr => ∃ k : Nat, k ≤ k0 ∧ i = .int .i64 k ∧ Ch (Value.slice da k0 dc).ownBlock.toList W6 wr ∧ ∀ j, j < k0 → ∃ (b : Nat) (ys : List Value), da = some ⟨b, 0, none⟩ ∧ blk wr b ys ∧ k0 ≤ ys.length) (fun i _ => k0 - (intOf i).toNat)
          case atStart => exact ⟨0, by omega, rfl, Ch.refl _ _, rowBlk HRD6.out⟩
          case round =>
            obtain ⟨k, hk, rfl, hc, hbb⟩ := hrel
            by_cases hlt : k < k0
            · obtain ⟨b, ys, rfl, hb, hyl⟩ := hbb k hlt
              have hold := hb.cell (List.getElem?_eq_getElem (show k < ys.length by omega))
              have hfz := hb.frozen (i := k)
              have hb2 := hb.set (i := k) (.int .i64 (-5))
              have HB2 := Lib.hid hb2; clear hb2 hbb hb
              have HC9 := Lib.hid hc; clear hc
              generalize ys[k] = old at *
              go_wp2_with fail
              go_roundw
              case rel => exact ⟨k + 1, by omega, by go_num, HC9.out.setCell (by simp) _, fun _ _ => ⟨b, _, rfl, HB2.out, by simpa using hyl⟩⟩
              case measure => simp [intOf]; omega
            · have hld : ∀ q ∈ (Value.slice da k0 dc).ownBlock.toList, w3.heap.size ≤ q := HLD.out
              have hz3 := HCW3.out.size
              have hcw7 : Ch [] w wr := HCW6.out.trans hc (fun q hq => .inr (by have := hld q hq; omega))
              have hro7 := HRO6.out.ch hc (fun k hk hk2 => by have := HOW.out k (.inl hk); have := hld k hk2; omega)
              have hrl7 := HRL6.out.ch hc (fun k hk hk2 => by have := HOW.out k (.inr hk); have := hld k hk2; omega)
              have hkd : k = k0 := by omega
              have HCW7 := Lib.hid hcw7; clear hcw7 hc hbb
              have HRO7 := Lib.hid hro7; clear hro7
              have HRL7 := Lib.hid hrl7; clear hrl7
              clear HRO6 HRL6 HRD6 HCW6
              have HRf := Refs23_is (w := wr) l.length lc rfl (HS.out.ch HCW7.out (by simp)) (by omega)
              go_wp2_with fail
              refine HRf.mono ?_
              rintro e W8 ⟨vo, rfl, hrp, hlp, hc8⟩
              obtain ⟨pa, pc, rfl⟩ := row.shape hrp
              have HE := Eqref_is (w := W8) oc pc (xs := l) (ys := l) (Sl.of_ints (HRO7.out.ch hc8 (by simp)) (by omega)) (Sl.of_ints hrp (by omega))
              simp only [decide_true] at HE
              clear HRf hrp hlp
              have HC8 := Lib.hid hc8; clear hc8
              go_wp2_with fail
              refine HE.mono ?_
              rintro e W9 ⟨rfl, hc9⟩
              have hc79 := HC8.out.trans hc9 (by simp)
              have HE2 := Eqbool_is (w := W9) tc vc (xs := vs) (ys := vs) (row.sv (HRL7.out.ch hc79 (by simp)) rfl (by omega)) (HV.out.ch (HCW7.out.trans hc79 (by simp)) (by simp))
              simp only [decide_true] at HE2
              have HC79 := Lib.hid hc79; clear hc79 hc9 HE
              go_wp2_with fail
              refine HE2.mono ?_
              rintro e W10 ⟨rfl, hc10⟩
              have HCF := Lib.hid ((HCW7.out.trans HC79.out (by simp)).trans hc10 (by simp))
              clear HE2 hc10
              go_wp2_with fail
              go_ret
              exact ⟨rfl, HCF.out⟩
        · have hd0 : decide ((0 : Int) ≤ (vs.length : Int) - 1) = true := decide_eq_true (by omega)
          have h1 : 1 ≤ vs.length := by omega
          clear h0
          go_wp2_with fail
          go_loopw [162] (fun i wr => ∃ k : Nat, k ≤ k0 ∧ i = .int .i64 k ∧ Ch (Value.slice da k0 dc).ownBlock.toList W6 wr ∧ ∀ j, j < k0 → ∃ (b : Nat) (ys : List Value), da = some ⟨b, 0, none⟩ ∧ blk wr b ys ∧ k0 ≤ ys.length) (fun i _ => k0 - (intOf i).toNat)
          case atStart => exact ⟨0, by omega, rfl, Ch.refl _ _, rowBlk HRD6.out⟩
          case round =>
            obtain ⟨k, hk, rfl, hc, hbb⟩ := hrel
            by_cases hlt : k < k0
            · obtain ⟨b, ys, rfl, hb, hyl⟩ := hbb k hlt
              have hold := hb.cell (List.getElem?_eq_getElem (show k < ys.length by omega))
              have hfz := hb.frozen (i := k)
              have hb2 := hb.set (i := k) (.int .i64 (-5))
              have HB2 := Lib.hid hb2; clear hb2 hbb hb
              have HC9 := Lib.hid hc; clear hc
              generalize ys[k] = old at *
              go_wp2_with fail
              go_roundw
              case rel => exact ⟨k + 1, by omega, by go_num, HC9.out.setCell (by simp) _, fun _ _ => ⟨b, _, rfl, HB2.out, by simpa using hyl⟩⟩
              case measure => simp [intOf]; omega
            · have hld : ∀ q ∈ (Value.slice da k0 dc).ownBlock.toList, w3.heap.size ≤ q := HLD.out
              have hz3 := HCW3.out.size
              have hcw7 : Ch [] w wr := HCW6.out.trans hc (fun q hq => .inr (by have := hld q hq; omega))
              have hro7 := HRO6.out.ch hc (fun k hk hk2 => by have := HOW.out k (.inl hk); have := hld k hk2; omega)
              have hrl7 := HRL6.out.ch hc (fun k hk hk2 => by have := HOW.out k (.inr hk); have := hld k hk2; omega)
              have hkd : k = k0 := by omega
              have HCW7 := Lib.hid hcw7; clear hcw7 hc hbb
              have HRO7 := Lib.hid hro7; clear hro7
              have HRL7 := Lib.hid hrl7; clear hrl7
              clear HRO6 HRL6 HRD6 HCW6
              have HRf := Refs23_is (w := wr) l.length lc rfl (HS.out.ch HCW7.out (by simp)) (by omega)
              go_wp2_with fail
              refine HRf.mono ?_
              rintro e W8 ⟨vo, rfl, hrp, hlp, hc8⟩
              obtain ⟨pa, pc, rfl⟩ := row.shape hrp
              have HE := Eqref_is (w := W8) oc pc (xs := l) (ys := l) (Sl.of_ints (HRO7.out.ch hc8 (by simp)) (by omega)) (Sl.of_ints hrp (by omega))
              simp only [decide_true] at HE
              clear HRf hrp hlp
              have HC8 := Lib.hid hc8; clear hc8
              go_wp2_with fail
              refine HE.mono ?_
              rintro e W9 ⟨rfl, hc9⟩
              have hc79 := HC8.out.trans hc9 (by simp)
              have HE2 := Eqbool_is (w := W9) tc vc (xs := vs) (ys := vs) (row.sv (HRL7.out.ch hc79 (by simp)) rfl (by omega)) (HV.out.ch (HCW7.out.trans hc79 (by simp)) (by simp))
              simp only [decide_true] at HE2
              have HC79 := Lib.hid hc79; clear hc79 hc9 HE
              go_wp2_with fail
              refine HE2.mono ?_
              rintro e W10 ⟨rfl, hc10⟩
              have HCF := Lib.hid ((HCW7.out.trans HC79.out (by simp)).trans hc10 (by simp))
              clear HE2 hc10
              go_wp2_with fail
              go_ret
              exact ⟨rfl, HCF.out⟩
set_option maxRecDepth 100000 in
set_option maxHeartbeats 8000000 in
theorem words23_ttF3 {x : Nat} (hx : x < 4294967296) {k0 : Nat} (hk0 : k0 ≤ 17) (hk1 : 1 ≤ k0) {la va : Option Addr} {l : List Int} {vs : List Bool} (lc vc : Nat) (hS : Sl w la l) (hV : Sb w va vs) (hl : l.length ≤ 30) (hm : vs.length ≤ 30) (hbd : ∀ r ∈ l, -9223372036854775808 ≤ r ∧ r ≤ 9223372036854775807) (hq1 : 1 ≤ l.length) (hq2 : l.length ≤ 17) (hv1 : 1 ≤ l.length) (hv2 : l.length ≤ 16) (hv : vs.length ≠ l.length) :
    Calls Tryz.prog 8 #[.int .u32 x, .int .i64 k0, .slice la l.length lc, .slice va vs.length vc] w fun e w' => e = .returned (.bool true) ∧ Ch [] w w' := by
  have hr : rightW (k0 : Int) = true := by unfold rightW; simp; omega
  have hq : rightW (l.length : Int) = true := by unfold rightW; simp; omega
  have HRf := Refs23_is (w := w) l.length lc rfl hS (by omega)
  have HS := Lib.hid hS; clear hS
  have HV := Lib.hid hV; clear hV
  have HBD := Lib.hid hbd; clear hbd
  have hbq : ((vs.length : Int) == (l.length : Int)) = false := beqN (by omega)
  go_enter Tryz.func8, Tryz.ntmps8
  go_wp2_with fail
  refine HRf.mono ?_
  rintro e w1 ⟨vo, rfl, hro, hlo, hc1⟩
  obtain ⟨oa, oc, rfl⟩ := row.shape hro
  have HCB := Clbool_is (w := w1) vs.length vc rfl (HV.out.ch hc1 (by simp)) (by omega)
  go_wp2_with fail
  refine HCB.mono ?_
  rintro e w2 ⟨vl, rfl, hrl, hll, hc2⟩
  obtain ⟨ta, tc, rfl⟩ := row.shape hrl
  have HCo := sConst_is (w := w2) x hx k0
  rw [hr] at HCo
  simp only [if_true, Bool.false_eq_true, if_false, Int.toNat_natCast] at HCo
  go_wp2_with fail
  refine HCo.mono ?_
  rintro e w3 ⟨vcc, rfl, hnc⟩
  obtain ⟨ca, cc, rfl, hrc, hlc, hc3⟩ := hnc.parts (n := k0) (by simp [refsCells, constL])
  have hro3 := (hro.ch hc2 (by simp)).ch hc3 (by simp)
  have hwv : WVok w3 ⟨oa, l, oc⟩ := ⟨Sl.of_ints hro3 (by omega), HBD.out, by simp only; omega⟩
  have hcap : l.length ≤ oc := rowCap hro3
  have HCa := sCast_is hwv hcap k0
  simp only [hr, hq, WV.val, Bool.and_self, Bool.false_and, Bool.and_false, if_true, Bool.false_eq_true, if_false, Int.toNat_natCast] at HCa
  go_wp2_with fail
  refine HCa.mono ?_
  rintro e w4 ⟨vd, rfl, hnd⟩
  obtain ⟨da, dc, rfl, hrd, hld, hc4⟩ := hnd.parts (n := k0) (by simp [intCells, castL]; omega)
  have hrl4 := (hrl.ch hc3 (by simp)).ch hc4 (by simp)
  have HVa := sValue_is (w := w4) (x := ⟨oa, l, oc⟩) (by simp only; omega) (a := ta) (l := vs) tc (by omega) (row.sv hrl4 rfl (by omega))
  simp only [WV.val] at HVa
  rw [if_neg (by omega), if_neg (by omega)] at HVa
  go_wp2_with fail
  refine HVa.mono ?_
  rintro e w5 ⟨rfl, rfl⟩
  have HRi := r23Right_is (w := w4) k0
  rw [hr] at HRi
  go_wp2_with fail
  refine HRi.mono ?_
  rintro e w5 ⟨rfl, rfl⟩
  have HRj := r23Right_is (w := w4) l.length
  rw [hq] at HRj
  go_wp2_with fail
  refine HRj.mono ?_
  rintro e w5 ⟨rfl, rfl⟩
  have hro4 := hro3.ch hc4 (by simp)
  have hrc4 := hrc.ch hc4 (by simp)
  have hcw4 := ((hc1.trans hc2 (by simp)).trans hc3 (by simp)).trans hc4 (by simp)
  have hcw3 := (hc1.trans hc2 (by simp)).trans hc3 (by simp)
  have hown : ∀ k, (Value.slice oa l.length oc).ownBlock = some k ∨ (Value.slice ta vs.length tc).ownBlock = some k → k < w3.heap.size := fun k hk => by
    rcases hk with hk | hk
    · exact (hro3.lt k hk).2
    · exact ((hrl.ch hc3 (by simp)).lt k hk).2
  have HRO := Lib.hid hro4; clear hro hro3 hro4
  have HRL := Lib.hid hrl4; clear hrl hrl4
  have HRC := Lib.hid hrc4; clear hrc hrc4
  have HRD := Lib.hid hrd; clear hrd
  have HLD := Lib.hid hld; clear hld
  have HCW := Lib.hid hcw4; clear hcw4
  have HCW3 := Lib.hid hcw3; clear hcw3
  have HOW := Lib.hid hown
  clear hown HRf HCB HCo HCa HVa HRi hnc hnd hc1 hc2 hc3 hc4 hlo hll hlc hwv
  go_wp2_with fail
  go_loopw [89] (fun i wr => ∃ k : Nat, k ≤ 3 ∧ i = .int .i64 k ∧ wr = w4.alloc (.cells #[.int .i64 0, .int .i64 0, .int .i64 230] 36)) (fun i _ => 3 - (intOf i).toNat)
  case atStart => exact ⟨0, by omega, rfl, rfl⟩
  case round =>
    obtain ⟨k, hk, rfl, rfl⟩ := hrel
    by_cases hlt : k < 3
    · obtain ⟨ev, hev, hcell⟩ : ∃ ev : Int, (ev = 0 ∨ ev = 230) ∧ (w4.alloc (.cells #[.int .i64 0, .int .i64 0, .int .i64 230] 36)).cell? ⟨w4.heap.size, k, none⟩ = some (.int .i64 ev) := by
        have hb : blk (w4.alloc (.cells #[.int .i64 0, .int .i64 0, .int .i64 230] 36)) w4.heap.size [.int .i64 0, .int .i64 0, .int .i64 230] := blk.new' _ _ rfl
        rcases (show k = 0 ∨ k = 1 ∨ k = 2 by omega) with rfl | rfl | rfl <;> exact ⟨_, by simp, hb.cell rfl⟩
      rcases hev with rfl | rfl
      · go_wp2_with fail
        go_roundw
        case rel => exact ⟨k + 1, by omega, by go_num, trivial⟩
        case measure => simp [intOf]; omega
      · go_wp2_with fail
        go_roundw
        case rel => exact ⟨k + 1, by omega, by go_num, trivial⟩
        case measure => simp [intOf]; omega
    · obtain ⟨W5, hW5⟩ : ∃ W5, W5 = w4.alloc (.cells #[.int .i64 0, .int .i64 0, .int .i64 230] 36) := ⟨_, rfl⟩
      rw [← hW5]
      have hc5 := alw_ch hW5
      clear hW5
      have HRO5 := Lib.hid (HRO.out.ch hc5 (by simp))
      have HRL5 := Lib.hid (HRL.out.ch hc5 (by simp))
      have HRC5 := Lib.hid (HRC.out.ch hc5 (by simp))
      have HRD5 := Lib.hid (HRD.out.ch hc5 (by simp))
      have HCW5 := Lib.hid (HCW.out.trans hc5 (by simp))
      have HZ5 := Lib.hid hc5.size
      clear HRO HRL HRC HRD hc5
      have HI := Ints23_is (w := W5) (a := ca) (l := natInts (constL x k0)) k0 cc (by simp [natInts, constL]) (by have := HRC5.out; rw [refs_natInts] at this; exact Sl.of_ints this (by omega)) (by omega)
      go_wp2_with fail
      refine HI.mono ?_
      rintro e w6 ⟨vi, rfl, hri, hli, hc6⟩
      obtain ⟨ia, ic, rfl⟩ := row.shape hri
      have HQ := r23Const_is (w := w6) x hx k0 hk0
      clear HI
      go_wp2_with fail
      refine HQ.mono ?_
      rintro e w7 ⟨vq, rfl, hrq, hlq, hc7⟩
      obtain ⟨qa, qc, rfl⟩ := row.shape hrq
      clear HQ
      have HE := Eqint_is (w := w7) ic qc (xs := natInts (constL x k0)) (ys := natInts (rConstN x k0)) (Sl.of_ints (hri.ch hc7 (by simp)) (by omega)) (by rw [refs_natInts] at hrq; exact Sl.of_ints hrq (by omega))
      simp only [natInts_len, rConstN_eq, decide_true, show (constL x k0).length = k0 from by simp [constL]] at HE
      clear hri hli hrq hlq
      go_wp2_with fail
      refine HE.mono ?_
      rintro e w8 ⟨rfl, hc8⟩
      clear HE
      have hc58 := (hc6.trans hc7 (by simp)).trans hc8 (by simp)
      have HI := Ints23_is (w := w8) (a := da) (l := castL l k0) k0 dc (by simp [castL]; omega) (Sl.of_ints (HRD5.out.ch hc58 (by simp)) (by omega)) (by omega)
      have HC58 := Lib.hid hc58; clear hc58 hc6 hc7 hc8
      go_wp2_with fail
      refine HI.mono ?_
      rintro e w9 ⟨vi, rfl, hri, hli, hc9⟩
      obtain ⟨ja, jc, rfl⟩ := row.shape hri
      have HQ := r23Cast_is (w := w9) (a := la) l.length lc rfl (HS.out.ch ((HCW5.out.trans HC58.out (by simp)).trans hc9 (by simp)) (by simp)) k0 hk0 (by omega)
      clear HI
      go_wp2_with fail
      refine HQ.mono ?_
      rintro e w10 ⟨vq, rfl, hrq, hlq, hc10⟩
      obtain ⟨ra, rc, rfl⟩ := row.shape hrq
      clear HQ
      have HE := Eqint_is (w := w10) jc rc (xs := castL l k0) (ys := rCastL l k0) (Sl.of_ints (hri.ch hc10 (by simp)) (by omega)) (Sl.of_ints hrq (by omega))
      simp only [castL_eq, decide_true, show (rCastL l k0).length = k0 from by simp [rCastL]] at HE
      clear hri hli hrq hlq
      go_wp2_with fail
      refine HE.mono ?_
      rintro e w11 ⟨rfl, hc11⟩
      clear HE
      have HC := Lib.hid (((HC58.out.trans hc9 (by simp)).trans hc10 (by simp)).trans hc11 (by simp))
      clear hc9 hc10 hc11 HC58
      have HRO6 := Lib.hid (HRO5.out.ch HC.out (by simp))
      have HRL6 := Lib.hid (HRL5.out.ch HC.out (by simp))
      have HRD6 := Lib.hid (HRD5.out.ch HC.out (by simp))
      have HCW6 := Lib.hid (HCW5.out.trans HC.out (by simp))
      clear HRO5 HRL5 HRC5 HRD5
      obtain ⟨W6, hW6⟩ : ∃ W6, W6 = w11 := ⟨_, rfl⟩
      rw [← hW6] at HRO6 HRL6 HRD6 HCW6 HC
      try rw [← hW6]
      clear hW6
      go_wp2_with fail
      go_loopw [21, 22] (fun x i wr => i = .int .i64 ((vs.length : Int) - 1) ∧ W6 = wr ∧ x = .int .u32 0) (fun _ i _ => 0)
      case atStart => exact ⟨rfl, rfl, rfl⟩
      case round =>
        obtain ⟨rfl, rfl, rfl⟩ := hrel
        by_cases h0 : vs.length < 1
        · have hd0 : decide ((0 : Int) ≤ (vs.length : Int) - 1) = false := decide_eq_false (by omega)
          go_wp2_with fail
          go_loopw [162] (fun i wr => ∃ k : Nat, k ≤ k0 ∧ i = .int .i64 k ∧ Ch (Value.slice da k0 dc).ownBlock.toList W6 wr ∧ ∀ j, j < k0 → ∃ (b : Nat) (ys : List Value), da = some ⟨b, 0, none⟩ ∧ blk wr b ys ∧ k0 ≤ ys.length) (fun i _ => k0 - (intOf i).toNat)
          case atStart => exact ⟨0, by omega, rfl, Ch.refl _ _, rowBlk HRD6.out⟩
          case round =>
            obtain ⟨k, hk, rfl, hc, hbb⟩ := hrel
            by_cases hlt : k < k0
            · obtain ⟨b, ys, rfl, hb, hyl⟩ := hbb k hlt
              have hold := hb.cell (List.getElem?_eq_getElem (show k < ys.length by omega))
              have hfz := hb.frozen (i := k)
              have hb2 := hb.set (i := k) (.int .i64 (-5))
              have HB2 := Lib.hid hb2; clear hb2 hbb hb
              have HC9 := Lib.hid hc; clear hc
              generalize ys[k] = old at *
              go_wp2_with fail
              go_roundw
              case rel => exact ⟨k + 1, by omega, by go_num, HC9.out.setCell (by simp) _, fun _ _ => ⟨b, _, rfl, HB2.out, by simpa using hyl⟩⟩
              case measure => simp [intOf]; omega
            · have hld : ∀ q ∈ (Value.slice da k0 dc).ownBlock.toList, w3.heap.size ≤ q := HLD.out
              have hz3 := HCW3.out.size
              have hcw7 : Ch [] w wr := HCW6.out.trans hc (fun q hq => .inr (by have := hld q hq; omega))
              have hro7 := HRO6.out.ch hc (fun k hk hk2 => by have := HOW.out k (.inl hk); have := hld k hk2; omega)
              have hrl7 := HRL6.out.ch hc (fun k hk hk2 => by have := HOW.out k (.inr hk); have := hld k hk2; omega)
              have hkd : k = k0 := by omega
              have HCW7 := Lib.hid hcw7; clear hcw7 hc hbb
              have HRO7 := Lib.hid hro7; clear hro7
              have HRL7 := Lib.hid hrl7; clear hrl7
              clear HRO6 HRL6 HRD6 HCW6
              have HRf := Refs23_is (w := wr) l.length lc rfl (HS.out.ch HCW7.out (by simp)) (by omega)
              go_wp2_with fail
              refine HRf.mono ?_
              rintro e W8 ⟨vo, rfl, hrp, hlp, hc8⟩
              obtain ⟨pa, pc, rfl⟩ := row.shape hrp
              have HE := Eqref_is (w := W8) oc pc (xs := l) (ys := l) (Sl.of_ints (HRO7.out.ch hc8 (by simp)) (by omega)) (Sl.of_ints hrp (by omega))
              simp only [decide_true] at HE
              clear HRf hrp hlp
              have HC8 := Lib.hid hc8; clear hc8
              go_wp2_with fail
              refine HE.mono ?_
              rintro e W9 ⟨rfl, hc9⟩
              have hc79 := HC8.out.trans hc9 (by simp)
              have HE2 := Eqbool_is (w := W9) tc vc (xs := vs) (ys := vs) (row.sv (HRL7.out.ch hc79 (by simp)) rfl (by omega)) (HV.out.ch (HCW7.out.trans hc79 (by simp)) (by simp))
              simp only [decide_true] at HE2
              have HC79 := Lib.hid hc79; clear hc79 hc9 HE
              go_wp2_with fail
              refine HE2.mono ?_
              rintro e W10 ⟨rfl, hc10⟩
              have HCF := Lib.hid ((HCW7.out.trans HC79.out (by simp)).trans hc10 (by simp))
              clear HE2 hc10
              go_wp2_with fail
              go_ret
              exact ⟨rfl, HCF.out⟩
        · have hd0 : decide ((0 : Int) ≤ (vs.length : Int) - 1) = true := decide_eq_true (by omega)
          have h1 : 1 ≤ vs.length := by omega
          clear h0
          go_wp2_with fail
          go_loopw [162] (fun i wr => ∃ k : Nat, k ≤ k0 ∧ i = .int .i64 k ∧ Ch (Value.slice da k0 dc).ownBlock.toList W6 wr ∧ ∀ j, j < k0 → ∃ (b : Nat) (ys : List Value), da = some ⟨b, 0, none⟩ ∧ blk wr b ys ∧ k0 ≤ ys.length) (fun i _ => k0 - (intOf i).toNat)
          case atStart => exact ⟨0, by omega, rfl, Ch.refl _ _, rowBlk HRD6.out⟩
          case round =>
            obtain ⟨k, hk, rfl, hc, hbb⟩ := hrel
            by_cases hlt : k < k0
            · obtain ⟨b, ys, rfl, hb, hyl⟩ := hbb k hlt
              have hold := hb.cell (List.getElem?_eq_getElem (show k < ys.length by omega))
              have hfz := hb.frozen (i := k)
              have hb2 := hb.set (i := k) (.int .i64 (-5))
              have HB2 := Lib.hid hb2; clear hb2 hbb hb
              have HC9 := Lib.hid hc; clear hc
              generalize ys[k] = old at *
              go_wp2_with fail
              go_roundw
              case rel => exact ⟨k + 1, by omega, by go_num, HC9.out.setCell (by simp) _, fun _ _ => ⟨b, _, rfl, HB2.out, by simpa using hyl⟩⟩
              case measure => simp [intOf]; omega
            · have hld : ∀ q ∈ (Value.slice da k0 dc).ownBlock.toList, w3.heap.size ≤ q := HLD.out
              have hz3 := HCW3.out.size
              have hcw7 : Ch [] w wr := HCW6.out.trans hc (fun q hq => .inr (by have := hld q hq; omega))
              have hro7 := HRO6.out.ch hc (fun k hk hk2 => by have := HOW.out k (.inl hk); have := hld k hk2; omega)
              have hrl7 := HRL6.out.ch hc (fun k hk hk2 => by have := HOW.out k (.inr hk); have := hld k hk2; omega)
              have hkd : k = k0 := by omega
              have HCW7 := Lib.hid hcw7; clear hcw7 hc hbb
              have HRO7 := Lib.hid hro7; clear hro7
              have HRL7 := Lib.hid hrl7; clear hrl7
              clear HRO6 HRL6 HRD6 HCW6
              have HRf := Refs23_is (w := wr) l.length lc rfl (HS.out.ch HCW7.out (by simp)) (by omega)
              go_wp2_with fail
              refine HRf.mono ?_
              rintro e W8 ⟨vo, rfl, hrp, hlp, hc8⟩
              obtain ⟨pa, pc, rfl⟩ := row.shape hrp
              have HE := Eqref_is (w := W8) oc pc (xs := l) (ys := l) (Sl.of_ints (HRO7.out.ch hc8 (by simp)) (by omega)) (Sl.of_ints hrp (by omega))
              simp only [decide_true] at HE
              clear HRf hrp hlp
              have HC8 := Lib.hid hc8; clear hc8
              go_wp2_with fail
              refine HE.mono ?_
              rintro e W9 ⟨rfl, hc9⟩
              have hc79 := HC8.out.trans hc9 (by simp)
              have HE2 := Eqbool_is (w := W9) tc vc (xs := vs) (ys := vs) (row.sv (HRL7.out.ch hc79 (by simp)) rfl (by omega)) (HV.out.ch (HCW7.out.trans hc79 (by simp)) (by simp))
              simp only [decide_true] at HE2
              have HC79 := Lib.hid hc79; clear hc79 hc9 HE
              go_wp2_with fail
              refine HE2.mono ?_
              rintro e W10 ⟨rfl, hc10⟩
              have HCF := Lib.hid ((HCW7.out.trans HC79.out (by simp)).trans hc10 (by simp))
              clear HE2 hc10
              go_wp2_with fail
              go_ret
              exact ⟨rfl, HCF.out⟩
end
end Go.Proofs.YtchledddgmbndaaGreat
namespace Go.Proofs.YtchledddgmbndaaGreat
open Go.RowKit Go.Mem Go.Aig
section
variable {w : World}
theorem words23_is {x : Nat} (hx : x < 4294967296) (width : Int) {la va : Option Addr} {l : List Int} {vs : List Bool} (lc vc : Nat) (hS : Sl w la l) (hV : Sb w va vs) (hl : l.length ≤ 30) (hm : vs.length ≤ 30) (hbd : ∀ r ∈ l, -9223372036854775808 ≤ r ∧ r ≤ 9223372036854775807) :
    Calls Tryz.prog 8 #[.int .u32 x, .int .i64 width, .slice la l.length lc, .slice va vs.length vc] w fun e w' => e = .returned (.bool true) ∧ Ch [] w w' := by
  have hrw : ∀ n : Int, rightW n = true ↔ 1 ≤ n ∧ n ≤ 17 := fun n => by unfold rightW; simp
  cases hr : rightW width
  · by_cases h1 : l.length < 1
    · exact words23_ffF1 hx hr lc vc hS hV hl hm hbd h1
    · by_cases h2 : 17 ≤ l.length
      · exact words23_ffF2 hx hr lc vc hS hV hl hm hbd h2
      · by_cases h3 : vs.length = l.length
        · exact words23_ffT hx hr lc vc hS hV hl hm hbd (by omega) (by omega) h3
        · exact words23_ffF3 hx hr lc vc hS hV hl hm hbd (by omega) (by omega) h3
  · have h0 := (hrw _).1 hr
    obtain ⟨k0, rfl⟩ : ∃ k0 : Nat, width = k0 := ⟨width.toNat, by omega⟩
    by_cases h1 : l.length < 1
    · exact words23_tfF1 hx (by omega) (by omega) lc vc hS hV hl hm hbd (by unfold rightW; simp; omega) h1
    · by_cases h2 : 17 ≤ l.length
      · by_cases h4 : l.length = 17
        · exact words23_ttF2 hx (by omega) (by omega) lc vc hS hV hl hm hbd (by omega) (by omega) h2
        · exact words23_tfF2 hx (by omega) (by omega) lc vc hS hV hl hm hbd (by unfold rightW; simp; omega) h2
      · by_cases h3 : vs.length = l.length
        · exact words23_ttT hx (by omega) (by omega) lc vc hS hV hl hm hbd (by omega) (by omega) (by omega) (by omega) h3
        · exact words23_ttF3 hx (by omega) (by omega) lc vc hS hV hl hm hbd (by omega) (by omega) (by omega) (by omega) h3
end
end Go.Proofs.YtchledddgmbndaaGreat
namespace Go.Proofs.YtchledddgmbndaaGreat
open Go.RowKit Go.Mem Go.Aig
def aactVal (x : AAct) : List Value := [.int .u8 x.kind, .slice x.xa x.xn x.xc, .slice x.ya x.yn x.yc, .int .i64 x.N]
/-- an act that is right, in a world -/
structure GAA (w : World) (x : AAct) : Prop where
  bd : x.kind ≤ 255 ∧ x.X.length = x.xn ∧ x.Y.length = x.yn ∧ (∀ z ∈ x.X, -9223372036854775808 ≤ z ∧ z ≤ 9223372036854775807) ∧ (∀ z ∈ x.Y, -9223372036854775808 ≤ z ∧ z ≤ 9223372036854775807)
  sx : Sl w x.xa x.X
  sy : Sl w x.ya x.Y
theorem aacts1 {w : World} {b : Nat} {x : AAct} (h : blk w b (aactVal x)) (hg : GAA w x) : AActS w (some ⟨b, 0, none⟩) 1 1 [x] :=
  ⟨rfl, Nat.le_refl _, by omega, fun i y hy => by
    match i, hy with
    | 0, hy =>
      cases hy
      exact ⟨b, 0, rfl, h.cell (i := 0) rfl, h.cell (i := 1) rfl, h.cell (i := 2) rfl, h.cell (i := 3) rfl⟩, fun y hy => by rw [List.mem_singleton.1 hy]; exact hg.bd, fun y hy => by rw [List.mem_singleton.1 hy]; exact hg.sx, fun y hy => by rw [List.mem_singleton.1 hy]; exact hg.sy⟩
theorem aacts2 {w : World} {b : Nat} {x z : AAct} (h : blk w b (aactVal x ++ aactVal z)) (hg : GAA w x) (hz : GAA w z) : AActS w (some ⟨b, 0, none⟩) 2 2 [x, z] := by
  have hm : ∀ y ∈ [x, z], GAA w y := fun y hy => by
    rcases List.mem_cons.1 hy with rfl | hy
    · exact hg
    · rw [List.mem_singleton.1 hy]; exact hz
  refine ⟨rfl, Nat.le_refl _, by omega, fun i y hy => ?_, fun y hy => (hm y hy).bd, fun y hy => (hm y hy).sx, fun y hy => (hm y hy).sy⟩
  match i, hy with
  | 0, hy =>
    cases hy
    exact ⟨b, 0, rfl, h.cell (i := 0) rfl, h.cell (i := 1) rfl, h.cell (i := 2) rfl, h.cell (i := 3) rfl⟩
  | 1, hy =>
    cases hy
    exact ⟨b, 0, rfl, h.cell (i := 4) rfl, h.cell (i := 5) rfl, h.cell (i := 6) rfl, h.cell (i := 7) rfl⟩
theorem aacts3 {w : World} {b : Nat} {x z u : AAct} (h : blk w b (aactVal x ++ aactVal z ++ aactVal u)) (hg : GAA w x) (hz : GAA w z) (hu : GAA w u) : AActS w (some ⟨b, 0, none⟩) 3 3 [x, z, u] := by
  have hm : ∀ y ∈ [x, z, u], GAA w y := fun y hy => by
    rcases List.mem_cons.1 hy with rfl | hy
    · exact hg
    · rcases List.mem_cons.1 hy with rfl | hy
      · exact hz
      · rw [List.mem_singleton.1 hy]; exact hu
  refine ⟨rfl, Nat.le_refl _, by omega, fun i y hy => ?_, fun y hy => (hm y hy).bd, fun y hy => (hm y hy).sx, fun y hy => (hm y hy).sy⟩
  match i, hy with
  | 0, hy =>
    cases hy
    exact ⟨b, 0, rfl, h.cell (i := 0) rfl, h.cell (i := 1) rfl, h.cell (i := 2) rfl, h.cell (i := 3) rfl⟩
  | 1, hy =>
    cases hy
    exact ⟨b, 0, rfl, h.cell (i := 4) rfl, h.cell (i := 5) rfl, h.cell (i := 6) rfl, h.cell (i := 7) rfl⟩
  | 2, hy =>
    cases hy
    exact ⟨b, 0, rfl, h.cell (i := 8) rfl, h.cell (i := 9) rfl, h.cell (i := 10) rfl, h.cell (i := 11) rfl⟩
theorem blk.slA {w : World} {b : Nat} {l : List Int} (h : blk w b (intCells l)) (hn : l.length ≤ 1000000) : Sl w (some ⟨b, 0, none⟩) l :=
  ⟨fun i x hx => ⟨b, 0, rfl, by rw [Nat.zero_add]; exact h.cell (by simp [intCells, hx])⟩, by omega⟩
theorem Sl.takeN {w : World} {a : Option Addr} {l : List Int} (h : Sl w a l) (n : Nat) : Sl w a (l.take n) :=
  ⟨fun i x hx => by
    rw [List.getElem?_take] at hx
    split at hx
    · exact h.cells i x hx
    · exact absurd hx (by simp), by have := h.bd; rw [List.length_take]; omega⟩
/-- a word that is made along the walk -/
structure Mar (w : World) (v : Value) (k : Nat) (L : List Int) : Prop where
  len : L.length = k
  bd : ∀ r ∈ L, -1000 ≤ r ∧ r ≤ 1000
  row : row w 3 1 v k (intCells L)
theorem Mar.ch {w w' : World} {v : Value} {k : Nat} {L : List Int} (h : Mar w v k L) (hc : Ch [] w w') : Mar w' v k L := ⟨h.len, h.bd, h.row.ch hc (by simp)⟩
theorem Mar.sl {w : World} {a : Option Addr} {k c : Nat} {L : List Int} (h : Mar w (.slice a k c) k L) (hk : k ≤ 1000) : Sl w a L := Sl.of_ints h.row (by omega)
theorem Mar.wide {w : World} {v : Value} {k : Nat} {L : List Int} (h : Mar w v k L) : ∀ z ∈ L, -9223372036854775808 ≤ z ∧ z ≤ 9223372036854775807 := fun z hz => by have := h.bd z hz; omega
theorem Mar.nil (w : World) : Mar w (.slice none 0 0) 0 [] := ⟨rfl, by simp, ⟨rfl, .inl ⟨rfl, rfl⟩⟩⟩
theorem row.capLeA {w : World} {e : TypeId} {size : Nat} {a : Option Addr} {n c m : Nat} {xs : List Value} (h : row w e size (.slice a n c) m xs) : m ≤ c ∧ c ≤ 9223372036854775807 := by
  rcases h.2 with ⟨e1, h0⟩ | ⟨g', cap', cur, e1, _, _, h1, h2, _⟩
  · cases e1; omega
  · cases e1; exact ⟨h1, by unfold maxLen at h2; exact h2⟩
theorem blk.sb {w : World} {b : Nat} {l : List Bool} (h : blk w b (bools l)) (hn : l.length ≤ 1000000) : Sb w (some ⟨b, 0, none⟩) l :=
  ⟨fun i x hx => ⟨b, 0, rfl, by rw [Nat.zero_add]; exact h.cell hx⟩, by rw [List.length_map]; omega⟩
theorem met_ints (m : Nat) : metCells (List.replicate m false) = intCells (List.replicate m 0) := by simp [metCells, intCells]
theorem max_z (z : Int) (ats : Array TypeId) (ty : TypeId) : Builtin.max_ ats ty #[.int .i64 z, .int .i64 0] = pure (.int .i64 (z.toNat : Nat)) := by
  have e : (if (0 : Int) > z then (0 : Int) else z) = z.toNat := by split <;> omega
  rw [← e]
  simp [Builtin.max_, Builtin.max2]
def small7 : List Int := [-9223372036854775808, -2, -1, 24, 25, 9223372036854775806, 9223372036854775807]
theorem small7_bd : ∀ z ∈ small7, -9223372036854775808 ≤ z ∧ z ≤ 9223372036854775807 := by decide
def small10 : List Int := [-9223372036854775808, -1, 0, 1, 2, 15, 16, 17, 18, 9223372036854775807]
def word7 : List Nat := [0, 1, 5, 32768, 65535, 65536, 4294967295]
section
variable {w : World}
/-- one act, and what is known of it -/
theorem one23 {W : World} {b : Nat} (M : Int) (N : Nat) (hN : N ≤ 255) {x : AAct} (hb : blk W b (aactVal x)) (hg : GAA W x) (h1 : x.xn ≤ 1000) (h2 : x.yn ≤ 1000) :
    Calls Tryz.prog 7 #[.agg #[.int .i64 M, .int .u8 N], .slice (some ⟨b, 0, none⟩) 1 1] W fun e w' => e = .returned (.bool true) ∧ Ch [] W w' :=
  makes23_is M N hN (aacts1 hb hg) (fun y hy => by rw [List.mem_singleton.1 hy]; exact ⟨h1, h2⟩)
theorem two23 {W : World} {b : Nat} (M : Int) (N : Nat) (hN : N ≤ 255) {x z : AAct} (hb : blk W b (aactVal x ++ aactVal z)) (hg : GAA W x) (hz : GAA W z) (h1 : x.xn ≤ 1000) (h2 : x.yn ≤ 1000) (h3 : z.xn ≤ 1000) (h4 : z.yn ≤ 1000) :
    Calls Tryz.prog 7 #[.agg #[.int .i64 M, .int .u8 N], .slice (some ⟨b, 0, none⟩) 2 2] W fun e w' => e = .returned (.bool true) ∧ Ch [] W w' :=
  makes23_is M N hN (aacts2 hb hg hz) (fun y hy => by
    rcases List.mem_cons.1 hy with rfl | hy
    · exact ⟨h1, h2⟩
    · rw [List.mem_singleton.1 hy]; exact ⟨h3, h4⟩)
theorem three23 {W : World} {b : Nat} (M : Int) (N : Nat) (hN : N ≤ 255) {x z u : AAct} (hb : blk W b (aactVal x ++ aactVal z ++ aactVal u)) (hg : GAA W x) (hz : GAA W z) (hu : GAA W u) (h1 : x.xn ≤ 1000) (h2 : x.yn ≤ 1000) (h3 : z.xn ≤ 1000) (h4 : z.yn ≤ 1000) (h5 : u.xn ≤ 1000) (h6 : u.yn ≤ 1000) :
    Calls Tryz.prog 7 #[.agg #[.int .i64 M, .int .u8 N], .slice (some ⟨b, 0, none⟩) 3 3] W fun e w' => e = .returned (.bool true) ∧ Ch [] W w' :=
  makes23_is M N hN (aacts3 hb hg hz hu) (fun y hy => by
    rcases List.mem_cons.1 hy with rfl | hy
    · exact ⟨h1, h2⟩
    · rcases List.mem_cons.1 hy with rfl | hy
      · exact ⟨h3, h4⟩
      · rw [List.mem_singleton.1 hy]; exact ⟨h5, h6⟩)
set_option maxRecDepth 100000 in
set_option maxHeartbeats 16000000 in
theorem SumsSmall_walk (w : World) : Calls Tryz.prog 4 #[] w fun e w' => e = .returned (.bool true) ∧ Ch [] w w' := by
  have HAW := Lib.hid fun (W : World) => awake23_is W
  go_enter Tryz.func4, Tryz.ntmps4
  go_wp2_with fail
  go_loopw [15] (fun i wr => ∃ kd : Nat, kd ≤ 13 ∧ i = .int .u8 kd ∧ Ch [] w wr) (fun i _ => 13 - (intOf i).toNat)
  case atStart => exact ⟨0, by omega, rfl, Ch.refl _ _⟩
  case round =>
    obtain ⟨kd, hkd, rfl, hc⟩ := hrel
    by_cases hk13 : kd < 13
    · have HC := Lib.hid hc; clear hc
      have dk13 : decide ((kd : Int) < 13) = true := decide_eq_true (by omega)
      go_wp2_with fail
      go_loopw [18] (fun i wr => ∃ n : Nat, n ≤ 147 ∧ i = .int .i64 n ∧ Ch [] w wr) (fun i _ => 147 - (intOf i).toNat)
      case atStart => exact ⟨0, by omega, rfl, HC.out⟩
      case round =>
        obtain ⟨n, hn, rfl, hc⟩ := hrel
        clear HC
        by_cases hn147 : n < 147
        · have HC := Lib.hid hc; clear hc
          obtain ⟨q, hq⟩ : ∃ q, ((n : Int) + kd) % 7 = q := ⟨_, rfl⟩
          have hq0 : q = 0 ∨ q = 1 ∨ q = 2 ∨ q = 3 ∨ q = 4 ∨ q = 5 ∨ q = 6 := by omega
          obtain ⟨k2, hk2, hk2b⟩ : ∃ k2 : Nat, ((kd : Int) + 5) % 13 = k2 ∧ k2 ≤ 12 := ⟨(kd + 5) % 13, by omega, by omega⟩
          rcases hq0 with rfl | rfl | rfl | rfl | rfl | rfl | rfl
          · go_wp2_with fail
            refine calls_named fun W hW => ?_
            have hb0 : blk W wr.heap.size (intCells [(n : Int) % 7, 5]) := by rw [hW]; exact (((blk.new' _ _ rfl).alloc _).alloc _).alloc _
            have hb1 : blk W (wr.heap.size + 1) (intCells [(n : Int) / 7 % 7, 2 + (n : Int) / 49]) := by rw [hW]; exact ((blk.new' _ _ (by simp)).alloc _).alloc _
            have hb3 : blk W (wr.heap.size + 3) (aactVal ⟨kd, some ⟨wr.heap.size, 0, none⟩, 2, 2, [(n : Int) % 7, 5], some ⟨wr.heap.size + 1, 0, none⟩, 2, 2, [(n : Int) / 7 % 7, 2 + (n : Int) / 49], 2⟩ ++ aactVal ⟨k2, some ⟨wr.heap.size + 1, 0, none⟩, 2, 2, [(n : Int) / 7 % 7, 2 + (n : Int) / 49], some ⟨wr.heap.size, 0, none⟩, 2, 2, [(n : Int) % 7, 5], 1⟩ ++ aactVal ⟨kd, some ⟨wr.heap.size, 0, none⟩, 2, 2, [(n : Int) % 7, 5], some ⟨wr.heap.size + 1, 0, none⟩, 2, 2, [(n : Int) / 7 % 7, 2 + (n : Int) / 49], 1⟩) := by rw [hW]; exact blk.new' _ _ (by simp)
            have hc1 : Ch [] wr W := by rw [hW]; exact ((((Ch.refl _ _).alloc _).alloc _).alloc _).alloc _
            clear hW
            have hX : ∀ z ∈ [(n : Int) % 7, 5], -9223372036854775808 ≤ z ∧ z ≤ 9223372036854775807 := fun z hz => by simp at hz; omega
            have hY : ∀ z ∈ [(n : Int) / 7 % 7, 2 + (n : Int) / 49], -9223372036854775808 ≤ z ∧ z ≤ 9223372036854775807 := fun z hz => by simp at hz; omega
            refine (three23 60 4 (by omega) hb3 ⟨⟨by show kd ≤ 255; omega, rfl, rfl, hX, hY⟩, blk.slA hb0 (by simp), blk.slA hb1 (by simp)⟩ ⟨⟨by show k2 ≤ 255; omega, rfl, rfl, hY, hX⟩, blk.slA hb1 (by simp), blk.slA hb0 (by simp)⟩ ⟨⟨by show kd ≤ 255; omega, rfl, rfl, hX, hY⟩, blk.slA hb0 (by simp), blk.slA hb1 (by simp)⟩ (by show 2 ≤ 1000; omega) (by show 2 ≤ 1000; omega) (by show 2 ≤ 1000; omega) (by show 2 ≤ 1000; omega) (by show 2 ≤ 1000; omega) (by show 2 ≤ 1000; omega)).mono ?_
            rintro e w2 ⟨rfl, hc2⟩
            have HC2 := Lib.hid (hc1.trans hc2 (by simp)); clear hc1 hc2 hb0 hb1 hb3 hX hY
            go_wp2_with fail
            go_roundw
            case rel => exact ⟨n + 1, by omega, by go_num, HC.out.trans HC2.out (by simp)⟩
            case measure => simp [intOf]; omega
          · go_wp2_with fail
            refine calls_named fun W hW => ?_
            have hb0 : blk W wr.heap.size (intCells [(n : Int) % 7, 5]) := by rw [hW]; exact (((blk.new' _ _ rfl).alloc _).alloc _).alloc _
            have hb1 : blk W (wr.heap.size + 1) (intCells [(n : Int) / 7 % 7, 2 + (n : Int) / 49]) := by rw [hW]; exact ((blk.new' _ _ (by simp)).alloc _).alloc _
            have hb3 : blk W (wr.heap.size + 3) (aactVal ⟨kd, some ⟨wr.heap.size, 0, none⟩, 2, 2, [(n : Int) % 7, 5], some ⟨wr.heap.size + 1, 0, none⟩, 2, 2, [(n : Int) / 7 % 7, 2 + (n : Int) / 49], 2⟩ ++ aactVal ⟨k2, some ⟨wr.heap.size + 1, 0, none⟩, 2, 2, [(n : Int) / 7 % 7, 2 + (n : Int) / 49], some ⟨wr.heap.size, 0, none⟩, 2, 2, [(n : Int) % 7, 5], 1⟩ ++ aactVal ⟨kd, some ⟨wr.heap.size, 0, none⟩, 2, 2, [(n : Int) % 7, 5], some ⟨wr.heap.size + 1, 0, none⟩, 2, 2, [(n : Int) / 7 % 7, 2 + (n : Int) / 49], 1⟩) := by rw [hW]; exact blk.new' _ _ (by simp)
            have hc1 : Ch [] wr W := by rw [hW]; exact ((((Ch.refl _ _).alloc _).alloc _).alloc _).alloc _
            clear hW
            have hX : ∀ z ∈ [(n : Int) % 7, 5], -9223372036854775808 ≤ z ∧ z ≤ 9223372036854775807 := fun z hz => by simp at hz; omega
            have hY : ∀ z ∈ [(n : Int) / 7 % 7, 2 + (n : Int) / 49], -9223372036854775808 ≤ z ∧ z ≤ 9223372036854775807 := fun z hz => by simp at hz; omega
            refine (three23 9 4 (by omega) hb3 ⟨⟨by show kd ≤ 255; omega, rfl, rfl, hX, hY⟩, blk.slA hb0 (by simp), blk.slA hb1 (by simp)⟩ ⟨⟨by show k2 ≤ 255; omega, rfl, rfl, hY, hX⟩, blk.slA hb1 (by simp), blk.slA hb0 (by simp)⟩ ⟨⟨by show kd ≤ 255; omega, rfl, rfl, hX, hY⟩, blk.slA hb0 (by simp), blk.slA hb1 (by simp)⟩ (by show 2 ≤ 1000; omega) (by show 2 ≤ 1000; omega) (by show 2 ≤ 1000; omega) (by show 2 ≤ 1000; omega) (by show 2 ≤ 1000; omega) (by show 2 ≤ 1000; omega)).mono ?_
            rintro e w2 ⟨rfl, hc2⟩
            have HC2 := Lib.hid (hc1.trans hc2 (by simp)); clear hc1 hc2 hb0 hb1 hb3 hX hY
            go_wp2_with fail
            go_roundw
            case rel => exact ⟨n + 1, by omega, by go_num, HC.out.trans HC2.out (by simp)⟩
            case measure => simp [intOf]; omega
          · go_wp2_with fail
            refine calls_named fun W hW => ?_
            have hb0 : blk W wr.heap.size (intCells [(n : Int) % 7, 5]) := by rw [hW]; exact (((blk.new' _ _ rfl).alloc _).alloc _).alloc _
            have hb1 : blk W (wr.heap.size + 1) (intCells [(n : Int) / 7 % 7, 2 + (n : Int) / 49]) := by rw [hW]; exact ((blk.new' _ _ (by simp)).alloc _).alloc _
            have hb3 : blk W (wr.heap.size + 3) (aactVal ⟨kd, some ⟨wr.heap.size, 0, none⟩, 2, 2, [(n : Int) % 7, 5], some ⟨wr.heap.size + 1, 0, none⟩, 2, 2, [(n : Int) / 7 % 7, 2 + (n : Int) / 49], 2⟩ ++ aactVal ⟨k2, some ⟨wr.heap.size + 1, 0, none⟩, 2, 2, [(n : Int) / 7 % 7, 2 + (n : Int) / 49], some ⟨wr.heap.size, 0, none⟩, 2, 2, [(n : Int) % 7, 5], 1⟩ ++ aactVal ⟨kd, some ⟨wr.heap.size, 0, none⟩, 2, 2, [(n : Int) % 7, 5], some ⟨wr.heap.size + 1, 0, none⟩, 2, 2, [(n : Int) / 7 % 7, 2 + (n : Int) / 49], 1⟩) := by rw [hW]; exact blk.new' _ _ (by simp)
            have hc1 : Ch [] wr W := by rw [hW]; exact ((((Ch.refl _ _).alloc _).alloc _).alloc _).alloc _
            clear hW
            have hX : ∀ z ∈ [(n : Int) % 7, 5], -9223372036854775808 ≤ z ∧ z ≤ 9223372036854775807 := fun z hz => by simp at hz; omega
            have hY : ∀ z ∈ [(n : Int) / 7 % 7, 2 + (n : Int) / 49], -9223372036854775808 ≤ z ∧ z ≤ 9223372036854775807 := fun z hz => by simp at hz; omega
            refine (three23 7 4 (by omega) hb3 ⟨⟨by show kd ≤ 255; omega, rfl, rfl, hX, hY⟩, blk.slA hb0 (by simp), blk.slA hb1 (by simp)⟩ ⟨⟨by show k2 ≤ 255; omega, rfl, rfl, hY, hX⟩, blk.slA hb1 (by simp), blk.slA hb0 (by simp)⟩ ⟨⟨by show kd ≤ 255; omega, rfl, rfl, hX, hY⟩, blk.slA hb0 (by simp), blk.slA hb1 (by simp)⟩ (by show 2 ≤ 1000; omega) (by show 2 ≤ 1000; omega) (by show 2 ≤ 1000; omega) (by show 2 ≤ 1000; omega) (by show 2 ≤ 1000; omega) (by show 2 ≤ 1000; omega)).mono ?_
            rintro e w2 ⟨rfl, hc2⟩
            have HC2 := Lib.hid (hc1.trans hc2 (by simp)); clear hc1 hc2 hb0 hb1 hb3 hX hY
            go_wp2_with fail
            go_roundw
            case rel => exact ⟨n + 1, by omega, by go_num, HC.out.trans HC2.out (by simp)⟩
            case measure => simp [intOf]; omega
          · go_wp2_with fail
            refine calls_named fun W hW => ?_
            have hb0 : blk W wr.heap.size (intCells [(n : Int) % 7, 5]) := by rw [hW]; exact (((blk.new' _ _ rfl).alloc _).alloc _).alloc _
            have hb1 : blk W (wr.heap.size + 1) (intCells [(n : Int) / 7 % 7, 2 + (n : Int) / 49]) := by rw [hW]; exact ((blk.new' _ _ (by simp)).alloc _).alloc _
            have hb3 : blk W (wr.heap.size + 3) (aactVal ⟨kd, some ⟨wr.heap.size, 0, none⟩, 2, 2, [(n : Int) % 7, 5], some ⟨wr.heap.size + 1, 0, none⟩, 2, 2, [(n : Int) / 7 % 7, 2 + (n : Int) / 49], 2⟩ ++ aactVal ⟨k2, some ⟨wr.heap.size + 1, 0, none⟩, 2, 2, [(n : Int) / 7 % 7, 2 + (n : Int) / 49], some ⟨wr.heap.size, 0, none⟩, 2, 2, [(n : Int) % 7, 5], 1⟩ ++ aactVal ⟨kd, some ⟨wr.heap.size, 0, none⟩, 2, 2, [(n : Int) % 7, 5], some ⟨wr.heap.size + 1, 0, none⟩, 2, 2, [(n : Int) / 7 % 7, 2 + (n : Int) / 49], 1⟩) := by rw [hW]; exact blk.new' _ _ (by simp)
            have hc1 : Ch [] wr W := by rw [hW]; exact ((((Ch.refl _ _).alloc _).alloc _).alloc _).alloc _
            clear hW
            have hX : ∀ z ∈ [(n : Int) % 7, 5], -9223372036854775808 ≤ z ∧ z ≤ 9223372036854775807 := fun z hz => by simp at hz; omega
            have hY : ∀ z ∈ [(n : Int) / 7 % 7, 2 + (n : Int) / 49], -9223372036854775808 ≤ z ∧ z ≤ 9223372036854775807 := fun z hz => by simp at hz; omega
            refine (three23 6 4 (by omega) hb3 ⟨⟨by show kd ≤ 255; omega, rfl, rfl, hX, hY⟩, blk.slA hb0 (by simp), blk.slA hb1 (by simp)⟩ ⟨⟨by show k2 ≤ 255; omega, rfl, rfl, hY, hX⟩, blk.slA hb1 (by simp), blk.slA hb0 (by simp)⟩ ⟨⟨by show kd ≤ 255; omega, rfl, rfl, hX, hY⟩, blk.slA hb0 (by simp), blk.slA hb1 (by simp)⟩ (by show 2 ≤ 1000; omega) (by show 2 ≤ 1000; omega) (by show 2 ≤ 1000; omega) (by show 2 ≤ 1000; omega) (by show 2 ≤ 1000; omega) (by show 2 ≤ 1000; omega)).mono ?_
            rintro e w2 ⟨rfl, hc2⟩
            have HC2 := Lib.hid (hc1.trans hc2 (by simp)); clear hc1 hc2 hb0 hb1 hb3 hX hY
            go_wp2_with fail
            go_roundw
            case rel => exact ⟨n + 1, by omega, by go_num, HC.out.trans HC2.out (by simp)⟩
            case measure => simp [intOf]; omega
          · go_wp2_with fail
            refine calls_named fun W hW => ?_
            have hb0 : blk W wr.heap.size (intCells [(n : Int) % 7, 5]) := by rw [hW]; exact (((blk.new' _ _ rfl).alloc _).alloc _).alloc _
            have hb1 : blk W (wr.heap.size + 1) (intCells [(n : Int) / 7 % 7, 2 + (n : Int) / 49]) := by rw [hW]; exact ((blk.new' _ _ (by simp)).alloc _).alloc _
            have hb3 : blk W (wr.heap.size + 3) (aactVal ⟨kd, some ⟨wr.heap.size, 0, none⟩, 2, 2, [(n : Int) % 7, 5], some ⟨wr.heap.size + 1, 0, none⟩, 2, 2, [(n : Int) / 7 % 7, 2 + (n : Int) / 49], 2⟩ ++ aactVal ⟨k2, some ⟨wr.heap.size + 1, 0, none⟩, 2, 2, [(n : Int) / 7 % 7, 2 + (n : Int) / 49], some ⟨wr.heap.size, 0, none⟩, 2, 2, [(n : Int) % 7, 5], 1⟩ ++ aactVal ⟨kd, some ⟨wr.heap.size, 0, none⟩, 2, 2, [(n : Int) % 7, 5], some ⟨wr.heap.size + 1, 0, none⟩, 2, 2, [(n : Int) / 7 % 7, 2 + (n : Int) / 49], 1⟩) := by rw [hW]; exact blk.new' _ _ (by simp)
            have hc1 : Ch [] wr W := by rw [hW]; exact ((((Ch.refl _ _).alloc _).alloc _).alloc _).alloc _
            clear hW
            have hX : ∀ z ∈ [(n : Int) % 7, 5], -9223372036854775808 ≤ z ∧ z ≤ 9223372036854775807 := fun z hz => by simp at hz; omega
            have hY : ∀ z ∈ [(n : Int) / 7 % 7, 2 + (n : Int) / 49], -9223372036854775808 ≤ z ∧ z ≤ 9223372036854775807 := fun z hz => by simp at hz; omega
            refine (three23 12 4 (by omega) hb3 ⟨⟨by show kd ≤ 255; omega, rfl, rfl, hX, hY⟩, blk.slA hb0 (by simp), blk.slA hb1 (by simp)⟩ ⟨⟨by show k2 ≤ 255; omega, rfl, rfl, hY, hX⟩, blk.slA hb1 (by simp), blk.slA hb0 (by simp)⟩ ⟨⟨by show kd ≤ 255; omega, rfl, rfl, hX, hY⟩, blk.slA hb0 (by simp), blk.slA hb1 (by simp)⟩ (by show 2 ≤ 1000; omega) (by show 2 ≤ 1000; omega) (by show 2 ≤ 1000; omega) (by show 2 ≤ 1000; omega) (by show 2 ≤ 1000; omega) (by show 2 ≤ 1000; omega)).mono ?_
            rintro e w2 ⟨rfl, hc2⟩
            have HC2 := Lib.hid (hc1.trans hc2 (by simp)); clear hc1 hc2 hb0 hb1 hb3 hX hY
            go_wp2_with fail
            go_roundw
            case rel => exact ⟨n + 1, by omega, by go_num, HC.out.trans HC2.out (by simp)⟩
            case measure => simp [intOf]; omega
          · go_wp2_with fail
            refine calls_named fun W hW => ?_
            have hb0 : blk W wr.heap.size (intCells [(n : Int) % 7, 5]) := by rw [hW]; exact (((blk.new' _ _ rfl).alloc _).alloc _).alloc _
            have hb1 : blk W (wr.heap.size + 1) (intCells [(n : Int) / 7 % 7, 2 + (n : Int) / 49]) := by rw [hW]; exact ((blk.new' _ _ (by simp)).alloc _).alloc _
            have hb3 : blk W (wr.heap.size + 3) (aactVal ⟨kd, some ⟨wr.heap.size, 0, none⟩, 2, 2, [(n : Int) % 7, 5], some ⟨wr.heap.size + 1, 0, none⟩, 2, 2, [(n : Int) / 7 % 7, 2 + (n : Int) / 49], 2⟩ ++ aactVal ⟨k2, some ⟨wr.heap.size + 1, 0, none⟩, 2, 2, [(n : Int) / 7 % 7, 2 + (n : Int) / 49], some ⟨wr.heap.size, 0, none⟩, 2, 2, [(n : Int) % 7, 5], 1⟩ ++ aactVal ⟨kd, some ⟨wr.heap.size, 0, none⟩, 2, 2, [(n : Int) % 7, 5], some ⟨wr.heap.size + 1, 0, none⟩, 2, 2, [(n : Int) / 7 % 7, 2 + (n : Int) / 49], 1⟩) := by rw [hW]; exact blk.new' _ _ (by simp)
            have hc1 : Ch [] wr W := by rw [hW]; exact ((((Ch.refl _ _).alloc _).alloc _).alloc _).alloc _
            clear hW
            have hX : ∀ z ∈ [(n : Int) % 7, 5], -9223372036854775808 ≤ z ∧ z ≤ 9223372036854775807 := fun z hz => by simp at hz; omega
            have hY : ∀ z ∈ [(n : Int) / 7 % 7, 2 + (n : Int) / 49], -9223372036854775808 ≤ z ∧ z ≤ 9223372036854775807 := fun z hz => by simp at hz; omega
            refine (three23 10 4 (by omega) hb3 ⟨⟨by show kd ≤ 255; omega, rfl, rfl, hX, hY⟩, blk.slA hb0 (by simp), blk.slA hb1 (by simp)⟩ ⟨⟨by show k2 ≤ 255; omega, rfl, rfl, hY, hX⟩, blk.slA hb1 (by simp), blk.slA hb0 (by simp)⟩ ⟨⟨by show kd ≤ 255; omega, rfl, rfl, hX, hY⟩, blk.slA hb0 (by simp), blk.slA hb1 (by simp)⟩ (by show 2 ≤ 1000; omega) (by show 2 ≤ 1000; omega) (by show 2 ≤ 1000; omega) (by show 2 ≤ 1000; omega) (by show 2 ≤ 1000; omega) (by show 2 ≤ 1000; omega)).mono ?_
            rintro e w2 ⟨rfl, hc2⟩
            have HC2 := Lib.hid (hc1.trans hc2 (by simp)); clear hc1 hc2 hb0 hb1 hb3 hX hY
            go_wp2_with fail
            go_roundw
            case rel => exact ⟨n + 1, by omega, by go_num, HC.out.trans HC2.out (by simp)⟩
            case measure => simp [intOf]; omega
          · go_wp2_with fail
            refine calls_named fun W hW => ?_
            have hb0 : blk W wr.heap.size (intCells [(n : Int) % 7, 5]) := by rw [hW]; exact (((blk.new' _ _ rfl).alloc _).alloc _).alloc _
            have hb1 : blk W (wr.heap.size + 1) (intCells [(n : Int) / 7 % 7, 2 + (n : Int) / 49]) := by rw [hW]; exact ((blk.new' _ _ (by simp)).alloc _).alloc _
            have hb3 : blk W (wr.heap.size + 3) (aactVal ⟨kd, some ⟨wr.heap.size, 0, none⟩, 2, 2, [(n : Int) % 7, 5], some ⟨wr.heap.size + 1, 0, none⟩, 2, 2, [(n : Int) / 7 % 7, 2 + (n : Int) / 49], 2⟩ ++ aactVal ⟨k2, some ⟨wr.heap.size + 1, 0, none⟩, 2, 2, [(n : Int) / 7 % 7, 2 + (n : Int) / 49], some ⟨wr.heap.size, 0, none⟩, 2, 2, [(n : Int) % 7, 5], 1⟩ ++ aactVal ⟨kd, some ⟨wr.heap.size, 0, none⟩, 2, 2, [(n : Int) % 7, 5], some ⟨wr.heap.size + 1, 0, none⟩, 2, 2, [(n : Int) / 7 % 7, 2 + (n : Int) / 49], 1⟩) := by rw [hW]; exact blk.new' _ _ (by simp)
            have hc1 : Ch [] wr W := by rw [hW]; exact ((((Ch.refl _ _).alloc _).alloc _).alloc _).alloc _
            clear hW
            have hX : ∀ z ∈ [(n : Int) % 7, 5], -9223372036854775808 ≤ z ∧ z ≤ 9223372036854775807 := fun z hz => by simp at hz; omega
            have hY : ∀ z ∈ [(n : Int) / 7 % 7, 2 + (n : Int) / 49], -9223372036854775808 ≤ z ∧ z ≤ 9223372036854775807 := fun z hz => by simp at hz; omega
            refine (three23 8 4 (by omega) hb3 ⟨⟨by show kd ≤ 255; omega, rfl, rfl, hX, hY⟩, blk.slA hb0 (by simp), blk.slA hb1 (by simp)⟩ ⟨⟨by show k2 ≤ 255; omega, rfl, rfl, hY, hX⟩, blk.slA hb1 (by simp), blk.slA hb0 (by simp)⟩ ⟨⟨by show kd ≤ 255; omega, rfl, rfl, hX, hY⟩, blk.slA hb0 (by simp), blk.slA hb1 (by simp)⟩ (by show 2 ≤ 1000; omega) (by show 2 ≤ 1000; omega) (by show 2 ≤ 1000; omega) (by show 2 ≤ 1000; omega) (by show 2 ≤ 1000; omega) (by show 2 ≤ 1000; omega)).mono ?_
            rintro e w2 ⟨rfl, hc2⟩
            have HC2 := Lib.hid (hc1.trans hc2 (by simp)); clear hc1 hc2 hb0 hb1 hb3 hX hY
            go_wp2_with fail
            go_roundw
            case rel => exact ⟨n + 1, by omega, by go_num, HC.out.trans HC2.out (by simp)⟩
            case measure => simp [intOf]; omega
        · have HC := Lib.hid hc; clear hc
          go_wp2_with fail
          go_loopw [58] (fun i wr => ∃ n : Nat, n ≤ 19 ∧ i = .int .i64 n ∧ Ch [] w wr) (fun i _ => 19 - (intOf i).toNat)
          case atStart => exact ⟨0, by omega, rfl, HC.out⟩
          case round =>
            obtain ⟨n, hn, rfl, hc⟩ := hrel
            clear HC
            by_cases hn19 : n < 19
            · have HC := Lib.hid hc; clear hc
              have dn19 : decide ((n : Int) < 19) = true := decide_eq_true (by omega)
              go_wp2_with fail
              go_loopw [6, 7, 62] (fun o u i wq => ∃ (k : Nat) (L M : List Int), k ≤ n ∧ i = .int .i64 k ∧ Ch [] w wq ∧ Mar wq o k L ∧ Mar wq u k M ∧ (∀ q, o.ownBlock = some q → w.heap.size ≤ q ∧ u.ownBlock ≠ some q) ∧ (∀ q, u.ownBlock = some q → w.heap.size ≤ q) ∧ (k = 0 → o = .slice none 0 0 ∧ u = .slice none 0 0)) (fun _ _ i _ => n - (intOf i).toNat)
              case atStart => exact ⟨0, [], [], by omega, rfl, HC.out, Mar.nil _, Mar.nil _, by simp [Value.ownBlock], by simp [Value.ownBlock], fun _ => ⟨rfl, rfl⟩⟩
              case round =>
                obtain ⟨k, L, M, hk, rfl, hc, hmL, hmM, hap, hlo, hz0⟩ := hrel
                clear HC
                obtain ⟨oa, oc, rfl⟩ := row.shape hmL.row
                obtain ⟨ua, uc, rfl⟩ := row.shape hmM.row
                by_cases hlt : k < n
                · obtain ⟨z1, hz1, hz1b⟩ : ∃ z : Int, 2 + 2 * (k : Int) = z ∧ (-1000 ≤ z ∧ z ≤ 1000) := ⟨_, rfl, by omega⟩
                  obtain ⟨z2, hz2, hz2b⟩ : ∃ z : Int, 3 + 2 * (((k : Int) + 7) % 19) = z ∧ (-1000 ≤ z ∧ z ≤ 1000) := ⟨_, rfl, by omega⟩
                  have hcA : Ch [] wr (wr.alloc (.cells #[.int .i64 z1] 3)) := (Ch.refl _ _).alloc _
                  have hrA := hmL.row.ch hcA (by simp)
                  have hbA : blk (wr.alloc (.cells #[.int .i64 z1] 3)) wr.heap.size [.int .i64 z1] := blk.new' _ _ rfl
                  have hrB : ∀ w4, Ch (Value.slice oa k oc).ownBlock.toList (wr.alloc (.cells #[.int .i64 z1] 3)) w4 → Go.Mem.row (w4.alloc (.cells #[.int .i64 z2] 3)) 3 1 (.slice ua k uc) k (intCells M) := fun w4 h4 => ((hmM.row.ch hcA (by simp)).ch h4 (fun q hq hq2 => (hap q (by simpa using hq2)).2 hq)).ch ((Ch.refl [] w4).alloc _) (by simp)
                  have hbB : ∀ w4 : World, blk (w4.alloc (.cells #[.int .i64 z2] 3)) w4.heap.size [.int .i64 z2] := fun w4 => blk.new' _ _ rfl
                  have HRA := Lib.hid hrA; clear hrA
                  have HBA := Lib.hid hbA; clear hbA
                  have HRB := Lib.hid hrB; clear hrB
                  have HBB := Lib.hid hbB; clear hbB
                  have HCA := Lib.hid hcA; clear hcA
                  have HCP := Lib.hid hc; clear hc
                  have HML := Lib.hid hmL; clear hmL
                  have HMM := Lib.hid hmM; clear hmM
                  have HAP := Lib.hid hap; clear hap
                  have HLO := Lib.hid hlo; clear hlo hz0
                  go_wp2_with (at_builtin; first
                    | go_loud (refine wpList_append_row slInts rfl _ _ rfl (v := .slice oa k oc) (n := k) (xs := intCells L) rfl HRA.out (ad := ⟨wr.heap.size, 0, none⟩) (m := 1) (c := 1) (news := [.int .i64 z1]) rfl rfl (news_blk HBA.out) (by simp [Value.oneCell']) (by omega) (by omega) ?_; intro v4 w4 hown4 hC4 hf4; have HO4 := Lib.hid hown4; clear hown4; have HC4 := Lib.hid hC4; clear hC4; have HF4 := Lib.hid hf4; clear hf4)
                    | go_loud (refine wpList_append_row slInts rfl _ _ rfl (v := .slice ua k uc) (n := k) (xs := intCells M) rfl (HRB.out w4 HC4.out) (ad := ⟨w4.heap.size, 0, none⟩) (m := 1) (c := 1) (news := [.int .i64 z2]) rfl rfl (news_blk (HBB.out w4)) (by simp [Value.oneCell']) (by omega) (by omega) ?_; intro v5 w5 hown5 hC5 hf5; have HO5 := Lib.hid hown5; clear hown5; have HC5 := Lib.hid hC5; clear hC5; have HF5 := Lib.hid hf5; clear hf5))
                  go_roundw
                  case rel =>
                    have hz := HCP.out.size
                    have hz4 := HC4.out.size
                    have hzA := HCA.out.size
                    have hzB : w4.heap.size ≤ (w4.alloc (.cells #[.int .i64 z2] 3)).heap.size := by simp
                    have hz5 := HC5.out.size
                    have hoL := fun q (hq : (Value.slice oa k oc).ownBlock = some q) => (HML.out.row.lt q hq).2
                    have hoM := fun q (hq : (Value.slice ua k uc).ownBlock = some q) => (HMM.out.row.lt q hq).2
                    have ho4 := fun q (hq : v4.ownBlock = some q) => (HO4.out.lt q hq).2
                    have hcB : Ch [] w4 (w4.alloc (.cells #[.int .i64 z2] 3)) := (Ch.refl _ _).alloc _
                    have hn45 : ∀ q, v4.ownBlock = some q → q ∉ (Value.slice ua k uc).ownBlock.toList := fun q hq hq2 => by
                      have hq2 : (Value.slice ua k uc).ownBlock = some q := by simpa using hq2
                      rcases HF4.out q hq with e | e
                      · exact (HAP.out q e).2 hq2
                      · have := hoM q hq2; omega
                    have hch : Ch [] w w5 := (((HCP.out.trans HCA.out (by simp)).trans HC4.out (fun q hq => .inr (by have := (HAP.out q (by simpa using hq)).1; omega))).trans hcB (by simp)).trans HC5.out (fun q hq => .inr (by have := HLO.out q (by simpa using hq); omega))
                    refine ⟨k + 1, L ++ [z1], M ++ [z2], by omega, by go_num, hch, ⟨by rw [List.length_append, HML.out.len]; rfl, fun r hr => ?_, by rw [show intCells (L ++ [z1]) = intCells L ++ [.int .i64 z1] from by simp [intCells]]; exact (HO4.out.ch hcB (by simp)).ch HC5.out hn45⟩, ⟨by rw [List.length_append, HMM.out.len]; rfl, fun r hr => ?_, by rw [show intCells (M ++ [z2]) = intCells M ++ [.int .i64 z2] from by simp [intCells]]; exact HO5.out⟩, fun q hq => ⟨?_, fun hq5 => ?_⟩, fun q hq => ?_, fun h0 => by omega⟩
                    · rcases List.mem_append.1 hr with hr | hr
                      · exact HML.out.bd r hr
                      · rw [List.mem_singleton.1 hr]; exact hz1b
                    · rcases List.mem_append.1 hr with hr | hr
                      · exact HMM.out.bd r hr
                      · rw [List.mem_singleton.1 hr]; exact hz2b
                    · rcases HF4.out q hq with e | e
                      · exact (HAP.out q e).1
                      · omega
                    · rcases HF5.out q hq5 with e | e
                      · exact hn45 q hq (by simpa using e)
                      · have := ho4 q hq; omega
                    · rcases HF5.out q hq with e | e
                      · exact HLO.out q e
                      · omega
                  case measure => simp [intOf]; omega
                · have hkn : n = k := by omega
                  subst hkn
                  obtain ⟨m, hm⟩ : ∃ m : Nat, (n : Int) / 2 = m := ⟨n / 2, by omega⟩
                  have hmn : m ≤ n := by omega
                  have hshape : (n = 0 ∧ oa = none ∧ ua = none ∧ uc = 0) ∨ (0 < n ∧ (∃ b, ua = some ⟨b, 0, none⟩)) := by
                    by_cases h0 : n = 0
                    · left
                      obtain ⟨e1, e2⟩ := hz0 h0
                      simp at e1 e2
                      exact ⟨h0, e1.1, e2.1, e2.2.2⟩
                    · right
                      obtain ⟨b, c, e⟩ := hmM.row.parts (by omega)
                      simp at e
                      exact ⟨by omega, b, e.1⟩
                  have hcap : (m : Int) ≤ uc := by
                    rcases hshape with ⟨h0, _, _, rfl⟩ | ⟨h0, _⟩
                    · omega
                    · have := row.capLeA hmM.row; omega
                  have HML := Lib.hid hmL; clear hmL
                  have HMM := Lib.hid hmM; clear hmM hap hlo hz0
                  have HC := Lib.hid hc; clear hc
                  rcases hshape with ⟨h0, rfl, rfl, rfl⟩ | ⟨h0, ub, rfl⟩
                  · have H0 := Lib.hid h0; clear h0
                    go_wp2_with fail
                    refine calls_named fun W hW => ?_
                    have hb : blk W wr.heap.size (aactVal ⟨kd, none, n, oc, L, none, n, 0, M, n⟩) := by rw [hW]; exact blk.new' _ _ rfl
                    have hc1 : Ch [] wr W := by rw [hW]; exact (Ch.refl _ _).alloc _
                    clear hW
                    refine (one23 2000 20 (by omega) hb ⟨⟨by show kd ≤ 255; omega, HML.out.len, HMM.out.len, HML.out.wide, HMM.out.wide⟩, (HML.out.ch hc1).sl (by omega), (HMM.out.ch hc1).sl (by omega)⟩ (by show n ≤ 1000; omega) (by show n ≤ 1000; omega)).mono ?_
                    rintro e w2 ⟨rfl, hc2⟩
                    have HC2 := Lib.hid (hc1.trans hc2 (by simp)); clear hc1 hc2 hb
                    go_wp2_with fail
                    refine calls_named fun W hW => ?_
                    have hb : blk W w2.heap.size (aactVal ⟨kd, none, n, 0, M, none, n, oc, L, n⟩ ++ aactVal ⟨5, none, n, oc, L, none, n, oc, L, 0⟩) := by rw [hW]; exact blk.new' _ _ rfl
                    have hc1 : Ch [] wr W := by rw [hW]; exact HC2.out.alloc _
                    clear hW
                    refine (two23 70 20 (by omega) hb ⟨⟨by show kd ≤ 255; omega, HMM.out.len, HML.out.len, HMM.out.wide, HML.out.wide⟩, (HMM.out.ch hc1).sl (by omega), (HML.out.ch hc1).sl (by omega)⟩ ⟨⟨by show 5 ≤ 255; omega, HML.out.len, HML.out.len, HML.out.wide, HML.out.wide⟩, (HML.out.ch hc1).sl (by omega), (HML.out.ch hc1).sl (by omega)⟩ (by show n ≤ 1000; omega) (by show n ≤ 1000; omega) (by show n ≤ 1000; omega) (by show n ≤ 1000; omega)).mono ?_
                    rintro e w3 ⟨rfl, hc2⟩
                    have HC3 := Lib.hid (hc1.trans hc2 (by simp)); clear hc1 hc2 hb HC2
                    go_wp2_with fail
                    refine calls_named fun W hW => ?_
                    have hb : blk W w3.heap.size (aactVal ⟨kd, none, n, oc, L, none, m, 0, M.take m, n⟩) := by rw [hW]; exact blk.new' _ _ rfl
                    have hc1 : Ch [] wr W := by rw [hW]; exact HC3.out.alloc _
                    clear hW
                    refine (one23 60 20 (by omega) hb ⟨⟨by show kd ≤ 255; omega, HML.out.len, by show (M.take m).length = m; rw [List.length_take, HMM.out.len]; omega, HML.out.wide, fun z hz => HMM.out.wide z (List.mem_of_mem_take hz)⟩, (HML.out.ch hc1).sl (by omega), ((HMM.out.ch hc1).sl (by omega)).takeN m⟩ (by show n ≤ 1000; omega) (by show m ≤ 1000; omega)).mono ?_
                    rintro e w4 ⟨rfl, hc2⟩
                    have HC4 := Lib.hid (hc1.trans hc2 (by simp)); clear hc1 hc2 hb HC3
                    go_wp2_with fail
                    go_roundw
                    case rel => exact ⟨n + 1, by omega, by go_num, HC.out.trans HC4.out (by simp)⟩
                    case measure => simp [intOf]; omega
                  · go_wp2_with fail
                    refine calls_named fun W hW => ?_
                    have hb : blk W wr.heap.size (aactVal ⟨kd, oa, n, oc, L, some ⟨ub, 0, none⟩, n, uc, M, n⟩) := by rw [hW]; exact blk.new' _ _ rfl
                    have hc1 : Ch [] wr W := by rw [hW]; exact (Ch.refl _ _).alloc _
                    clear hW
                    refine (one23 2000 20 (by omega) hb ⟨⟨by show kd ≤ 255; omega, HML.out.len, HMM.out.len, HML.out.wide, HMM.out.wide⟩, (HML.out.ch hc1).sl (by omega), (HMM.out.ch hc1).sl (by omega)⟩ (by show n ≤ 1000; omega) (by show n ≤ 1000; omega)).mono ?_
                    rintro e w2 ⟨rfl, hc2⟩
                    have HC2 := Lib.hid (hc1.trans hc2 (by simp)); clear hc1 hc2 hb
                    go_wp2_with fail
                    refine calls_named fun W hW => ?_
                    have hb : blk W w2.heap.size (aactVal ⟨kd, some ⟨ub, 0, none⟩, n, uc, M, oa, n, oc, L, n⟩ ++ aactVal ⟨5, oa, n, oc, L, oa, n, oc, L, 0⟩) := by rw [hW]; exact blk.new' _ _ rfl
                    have hc1 : Ch [] wr W := by rw [hW]; exact HC2.out.alloc _
                    clear hW
                    refine (two23 70 20 (by omega) hb ⟨⟨by show kd ≤ 255; omega, HMM.out.len, HML.out.len, HMM.out.wide, HML.out.wide⟩, (HMM.out.ch hc1).sl (by omega), (HML.out.ch hc1).sl (by omega)⟩ ⟨⟨by show 5 ≤ 255; omega, HML.out.len, HML.out.len, HML.out.wide, HML.out.wide⟩, (HML.out.ch hc1).sl (by omega), (HML.out.ch hc1).sl (by omega)⟩ (by show n ≤ 1000; omega) (by show n ≤ 1000; omega) (by show n ≤ 1000; omega) (by show n ≤ 1000; omega)).mono ?_
                    rintro e w3 ⟨rfl, hc2⟩
                    have HC3 := Lib.hid (hc1.trans hc2 (by simp)); clear hc1 hc2 hb HC2
                    go_wp2_with fail
                    refine calls_named fun W hW => ?_
                    have hb : blk W w3.heap.size (aactVal ⟨kd, oa, n, oc, L, some ⟨ub, 0, none⟩, m, uc, M.take m, n⟩) := by rw [hW]; exact blk.new' _ _ rfl
                    have hc1 : Ch [] wr W := by rw [hW]; exact HC3.out.alloc _
                    clear hW
                    refine (one23 60 20 (by omega) hb ⟨⟨by show kd ≤ 255; omega, HML.out.len, by show (M.take m).length = m; rw [List.length_take, HMM.out.len]; omega, HML.out.wide, fun z hz => HMM.out.wide z (List.mem_of_mem_take hz)⟩, (HML.out.ch hc1).sl (by omega), ((HMM.out.ch hc1).sl (by omega)).takeN m⟩ (by show n ≤ 1000; omega) (by show m ≤ 1000; omega)).mono ?_
                    rintro e w4 ⟨rfl, hc2⟩
                    have HC4 := Lib.hid (hc1.trans hc2 (by simp)); clear hc1 hc2 hb HC3
                    go_wp2_with fail
                    go_roundw
                    case rel => exact ⟨n + 1, by omega, by go_num, HC.out.trans HC4.out (by simp)⟩
                    case measure => simp [intOf]; omega
            · have HC := Lib.hid hc; clear hc
              go_wp2_with fail
              refine wp_alw ?_
              intro W1 hW1
              have hb := alw_blk (xs := intCells small7) hW1
              have hc1 := HC.out.trans (alw_ch hW1) (by simp)
              clear hW1 HC
              generalize wr.heap.size = b7 at *
              have HB := Lib.hid hb; clear hb
              have HC := Lib.hid hc1; clear hc1
              go_loopw [120] (fun i wr => ∃ k : Nat, k ≤ 7 ∧ i = .int .i64 k ∧ Ch [] w wr ∧ Ch [] W1 wr) (fun i _ => 7 - (intOf i).toNat)
              case atStart => exact ⟨0, by omega, rfl, HC.out, Ch.refl _ _⟩
              case round =>
                obtain ⟨k, hk, rfl, hc, hcW⟩ := hrel
                clear HC
                by_cases hk7 : k < 7
                · have dk : decide ((k : Int) < 7) = true := decide_eq_true (by omega)
                  obtain ⟨z, hz⟩ : ∃ z, small7[k]? = some z := ⟨_, List.getElem?_eq_getElem (show k < small7.length from hk7)⟩
                  obtain ⟨hz1, hz2⟩ := small7_bd z (List.mem_of_getElem? hz)
                  have hb := HB.out.ch hcW (by simp)
                  have c0 : wr.cell? ⟨b7, k, none⟩ = some (.int .i64 z) := hb.cell (by simp [intCells, hz])
                  clear hz hb
                  have HC := Lib.hid hc; clear hc
                  have HCW := Lib.hid hcW; clear hcW
                  go_wp2_with fail
                  refine calls_named fun W hW => ?_
                  have hb1 : blk W wr.heap.size (intCells [2, z]) := by rw [hW]; exact ((((((blk.new' _ _ rfl).alloc _).alloc _).alloc _).alloc _).alloc _).alloc _
                  have hb2 : blk W (wr.heap.size + 1) (intCells [4, 6]) := by rw [hW]; exact (((((blk.new' _ _ (by simp)).alloc _).alloc _).alloc _).alloc _).alloc _
                  have hb3 : blk W (wr.heap.size + 2) (intCells [2, 4]) := by rw [hW]; exact ((((blk.new' _ _ (by simp)).alloc _).alloc _).alloc _).alloc _
                  have hb4 : blk W (wr.heap.size + 3) (intCells [z, 6]) := by rw [hW]; exact (((blk.new' _ _ (by simp)).alloc _).alloc _).alloc _
                  have hb5 : blk W (wr.heap.size + 4) (intCells [z]) := by rw [hW]; exact ((blk.new' _ _ (by simp)).alloc _).alloc _
                  have hb6 : blk W (wr.heap.size + 5) (intCells [4, 6]) := by rw [hW]; exact (blk.new' _ _ (by simp)).alloc _
                  have hb7 : blk W (wr.heap.size + 6) (aactVal ⟨kd, some ⟨wr.heap.size, 0, none⟩, 2, 2, [2, z], some ⟨wr.heap.size + 1, 0, none⟩, 2, 2, [4, 6], z⟩ ++ aactVal ⟨kd, some ⟨wr.heap.size + 2, 0, none⟩, 2, 2, [2, 4], some ⟨wr.heap.size + 3, 0, none⟩, 2, 2, [z, 6], 3⟩ ++ aactVal ⟨kd, some ⟨wr.heap.size + 4, 0, none⟩, 1, 1, [z], some ⟨wr.heap.size + 5, 0, none⟩, 2, 2, [4, 6], 3⟩) := by rw [hW]; exact blk.new' _ _ (by simp)
                  have hc1 : Ch [] wr W := by rw [hW]; exact (((((((Ch.refl _ _).alloc _).alloc _).alloc _).alloc _).alloc _).alloc _).alloc _
                  clear hW
                  have q1 : ∀ r ∈ [(2 : Int), z], -9223372036854775808 ≤ r ∧ r ≤ 9223372036854775807 := fun r hr => by simp at hr; omega
                  have q2 : ∀ r ∈ [(4 : Int), 6], -9223372036854775808 ≤ r ∧ r ≤ 9223372036854775807 := fun r hr => by simp at hr; omega
                  have q3 : ∀ r ∈ [(2 : Int), 4], -9223372036854775808 ≤ r ∧ r ≤ 9223372036854775807 := fun r hr => by simp at hr; omega
                  have q4 : ∀ r ∈ [z, (6 : Int)], -9223372036854775808 ≤ r ∧ r ≤ 9223372036854775807 := fun r hr => by simp at hr; omega
                  have q5 : ∀ r ∈ [z], -9223372036854775808 ≤ r ∧ r ≤ 9223372036854775807 := fun r hr => by simp at hr; omega
                  refine (three23 60 5 (by omega) hb7 ⟨⟨by show kd ≤ 255; omega, rfl, rfl, q1, q2⟩, blk.slA hb1 (by simp), blk.slA hb2 (by simp)⟩ ⟨⟨by show kd ≤ 255; omega, rfl, rfl, q3, q4⟩, blk.slA hb3 (by simp), blk.slA hb4 (by simp)⟩ ⟨⟨by show kd ≤ 255; omega, rfl, rfl, q5, q2⟩, blk.slA hb5 (by simp), blk.slA hb6 (by simp)⟩ (by show 2 ≤ 1000; omega) (by show 2 ≤ 1000; omega) (by show 2 ≤ 1000; omega) (by show 2 ≤ 1000; omega) (by show 1 ≤ 1000; omega) (by show 2 ≤ 1000; omega)).mono ?_
                  rintro e w2 ⟨rfl, hc2⟩
                  have HC2 := Lib.hid (hc1.trans hc2 (by simp)); clear hc1 hc2 hb1 hb2 hb3 hb4 hb5 hb6 hb7 q1 q2 q3 q4 q5 c0
                  go_wp2_with fail
                  go_roundw
                  case rel => exact ⟨k + 1, by omega, by go_num, HC.out.trans HC2.out (by simp), HCW.out.trans HC2.out (by simp)⟩
                  case measure => simp [intOf]; omega
                · have HC := Lib.hid hc; clear hc hcW HB
                  go_wp2_with fail
                  go_roundw
                  case rel => exact ⟨kd + 1, by omega, by go_num, HC.out⟩
                  case measure => simp [intOf]; omega
    · have HC := Lib.hid hc; clear hc
      go_wp2_with fail
      refine wp_alw ?_
      intro W1 hW1
      have hb := alw_blk (xs := intCells small10) hW1
      have hc1 := HC.out.trans (alw_ch hW1) (by simp)
      clear hW1 HC
      generalize wr.heap.size = b10 at *
      have HB := Lib.hid hb; clear hb
      have HC := Lib.hid hc1; clear hc1
      go_loopw [148] (fun i wr => ∃ k : Nat, k ≤ 10 ∧ i = .int .i64 k ∧ Ch [] w wr ∧ Ch [] W1 wr) (fun i _ => 10 - (intOf i).toNat)
      case atStart => exact ⟨0, by omega, rfl, HC.out, Ch.refl _ _⟩
      case round =>
        obtain ⟨k, hk, rfl, hc, hcW⟩ := hrel
        clear HC
        by_cases hk10 : k < 10
        · have dk : decide ((k : Int) < 10) = true := decide_eq_true (by omega)
          obtain ⟨z, hz⟩ : ∃ z, small10[k]? = some z := ⟨_, List.getElem?_eq_getElem (show k < small10.length from hk10)⟩
          have hb := HB.out.ch hcW (by simp)
          have c0 : wr.cell? ⟨b10, k, none⟩ = some (.int .i64 z) := hb.cell (by simp [intCells, hz])
          clear hz hb
          have HC := Lib.hid hc; clear hc
          have HCW := Lib.hid hcW; clear hcW
          obtain ⟨m0, hm0⟩ : ∃ m0, m0 = z.toNat := ⟨_, rfl⟩
          have hmax := max_z z
          rw [← hm0] at hmax
          clear hm0
          have hmi1 : ∀ (ats : Array TypeId) (ty : TypeId), Builtin.min_ ats ty #[.int .i64 (m0 : Int), .int .i64 19] = pure (.int .i64 ((min m0 19 : Nat) : Int)) := min_nat m0 19 _ rfl
          have hmi2 : ∀ (ats : Array TypeId) (ty : TypeId), Builtin.min_ ats ty #[.int .i64 (m0 : Int), .int .i64 20] = pure (.int .i64 ((min m0 20 : Nat) : Int)) := min_nat m0 20 _ rfl
          obtain ⟨m1, hm1⟩ : ∃ m1, m1 = min m0 19 := ⟨_, rfl⟩
          obtain ⟨m2, hm2⟩ : ∃ m2, m2 = min m0 20 := ⟨_, rfl⟩
          simp only [← hm1] at hmi1
          simp only [← hm2] at hmi2
          have hm1b : m1 ≤ 19 := by omega
          have hm2b : m2 ≤ 20 := by omega
          clear hm1 hm2
          go_wp2_with fail
          refine wp_alw ?_
          intro W2 hW2
          have hbw := alw_blk (xs := word7.map fun (x : Nat) => Value.int .u32 x) hW2
          have hcw2 := alw_ch hW2
          have hc2 := HC.out.trans hcw2 (by simp)
          have hc3 := HCW.out.trans hcw2 (by simp)
          clear hW2 HC HCW c0 hcw2
          generalize wr.heap.size = bw at *
          have HBW := Lib.hid hbw; clear hbw
          have HC := Lib.hid hc2; clear hc2
          have HCW := Lib.hid hc3; clear hc3
          go_loopw [154] (fun i wr => ∃ j : Nat, j ≤ 7 ∧ i = .int .i64 j ∧ Ch [] w wr ∧ Ch [] W1 wr ∧ Ch [] W2 wr) (fun i _ => 7 - (intOf i).toNat)
          case atStart => exact ⟨0, by omega, rfl, HC.out, HCW.out, Ch.refl _ _⟩
          case round =>
            obtain ⟨j, hj, rfl, hc, hcW, hcW2⟩ := hrel
            clear HC HCW
            by_cases hj7 : j < 7
            · have dj : decide ((j : Int) < 7) = true := decide_eq_true (by omega)
              obtain ⟨x, hx⟩ : ∃ x, word7[j]? = some x := ⟨_, List.getElem?_eq_getElem (show j < word7.length from hj7)⟩
              have hx32 : x < 4294967296 := (show ∀ y ∈ word7, y < 4294967296 by decide) x (List.mem_of_getElem? hx)
              have c1 : wr.cell? ⟨bw, j, none⟩ = some (.int .u32 x) := (HBW.out.ch hcW2 (by simp)).cell (by simp [hx])
              clear hx
              have HC := Lib.hid hc; clear hc
              have HCW := Lib.hid hcW; clear hcW
              have HCW2 := Lib.hid hcW2; clear hcW2
              go_upto_region 36 with fail
              go_cut [180] (fun t wd => t = .bool false ∧ Ch [] wr wd)
              case first =>
                have hmkI := fun (W : World) => run_make_ints W m1 (by omega)
                have hmkB := fun (W : World) => run_make_bools W m2 (by omega)
                clear c1
                refine Ord.St.door (fun _ => True) [.fl, .fl, .fl, .fl, .fl, .ef, .fl, .fl, .fl, .ef, .ef, .fl, .fl, .fl, .fl, .ef, .fl, .fl, .fl, .ef, .ef, .fl, .fl] [0, 0, 0, 4, 12, 28, 0, 64, 192, 448, 1023, 2047, 4095, 8191, 8191, 8191, 8191, 73727, 204799, 466943, 1048575, 2097151, 4194303] [0, 1, 2, 3, 4, 5, 6, 7, 8, 9, 10, 11, 12, 13, 14, 15, 16, 17, 18, 19, 20, 21, 22] mixed (by kernel_rfl) rfl ?_
                obtain ⟨Wc, hWc⟩ : ∃ Wc, Wc = wr.drew := ⟨_, rfl⟩
                rw [← hWc]
                have hcur : Ch [] wr Wc := by rw [hWc]; exact (Ch.refl _ _).drew
                clear hWc
                refine Ord.St.fl2 (T' := ?_) 0 [1, 2, 3, 4, 5, 6, 7, 8, 9, 10, 11, 12, 13, 14, 15, 16, 17, 18, 19, 20, 21, 22] _ _ rfl (by kernel_rfl) rfl rfl rfl rfl (fun K w' hk => ?_) ?_
                rotate_left
                · go_step; exact hk
                refine Ord.St.fl2 (T' := ?_) 1 [2, 3, 4, 5, 6, 7, 8, 9, 10, 11, 12, 13, 14, 15, 16, 17, 18, 19, 20, 21, 22] _ _ rfl (by kernel_rfl) rfl rfl rfl rfl (fun K w' hk => ?_) ?_
                rotate_left
                · go_step; exact hk
                refine Ord.St.fl2 (T' := ?_) 2 [3, 4, 5, 6, 7, 8, 9, 10, 11, 12, 13, 14, 15, 16, 17, 18, 19, 20, 21, 22] _ _ rfl (by kernel_rfl) rfl rfl rfl rfl (fun K w' hk => ?_) ?_
                rotate_left
                · go_step; exact hk
                refine Ord.St.fl2 (T' := ?_) 3 [4, 5, 6, 7, 8, 9, 10, 11, 12, 13, 14, 15, 16, 17, 18, 19, 20, 21, 22] _ _ rfl (by kernel_rfl) rfl rfl rfl rfl (fun K w' hk => ?_) ?_
                rotate_left
                · go_step; exact hk
                refine Ord.St.fl2 (T' := ?_) 4 [5, 6, 7, 8, 9, 10, 11, 12, 13, 14, 15, 16, 17, 18, 19, 20, 21, 22] _ _ rfl (by kernel_rfl) rfl rfl rfl rfl (fun K w' hk => ?_) ?_
                rotate_left
                · go_step; exact hk
                refine Ord.St.fl2 (T' := ?_) 6 [5, 7, 8, 9, 10, 11, 12, 13, 14, 15, 16, 17, 18, 19, 20, 21, 22] _ _ rfl (by kernel_rfl) rfl rfl rfl rfl (fun K w' hk => ?_) ?_
                rotate_left
                · go_step; exact hk
                refine Ord.St.fl2 (T' := ?_) 7 [5, 8, 9, 10, 11, 12, 13, 14, 15, 16, 17, 18, 19, 20, 21, 22] _ _ rfl (by kernel_rfl) rfl rfl rfl rfl (fun K w' hk => ?_) ?_
                rotate_left
                · go_step; exact hk
                refine Ord.St.fl2 (T' := ?_) 8 [5, 9, 10, 11, 12, 13, 14, 15, 16, 17, 18, 19, 20, 21, 22] _ _ rfl (by kernel_rfl) rfl rfl rfl rfl (fun K w' hk => ?_) ?_
                rotate_left
                · go_step; exact hk
                refine Ord.St.two 5 9 [9, 10, 11, 12, 13, 14, 15, 16, 17, 18, 19, 20, 21, 22] [5, 10, 11, 12, 13, 14, 15, 16, 17, 18, 19, 20, 21, 22] _ _ (by kernel_rfl) rfl rfl (by kernel_rfl) (by kernel_rfl) (fun K hK => ?_) (fun K hK => ?_)
                · go_wp2_with fail
                  refine ⟨rfl, hK _ _ ?_ ?_⟩
                  · trivial
                  clear hK K
                  refine Ord.St.alw ?_; intro Wn hWn
                  have hbi := alw_blk hWn
                  try replace hbb := hbb.ch (alw_ch hWn) (by simp)
                  replace hcur := hcur.trans (alw_ch hWn) (by simp)
                  clear hWn
                  refine Ord.St.ef 9 [10, 11, 12, 13, 14, 15, 16, 17, 18, 19, 20, 21, 22] _ rfl (by kernel_rfl) (fun K hK => ?_)
                  go_wp2_with fail
                  refine ⟨rfl, hK _ _ ?_⟩; clear hK K
                  refine Ord.St.alw ?_; intro Wn hWn
                  have hbb := alw_blk hWn
                  try replace hbi := hbi.ch (alw_ch hWn) (by simp)
                  replace hcur := hcur.trans (alw_ch hWn) (by simp)
                  clear hWn
                  refine Ord.St.ef 10 [11, 12, 13, 14, 15, 16, 17, 18, 19, 20, 21, 22] _ rfl (by kernel_rfl) (fun K hK => ?_)
                  rw [met_ints] at hbi
                  have hCa := words23_is hx32 z (l := List.replicate m1 0) (vs := List.replicate m2 false) m1 m2 (blk.slA hbi (by simp; omega)) (blk.sb hbb (by simp; omega)) (by simp; omega) (by simp; omega) (fun r hr => by rw [(List.mem_replicate.1 hr).2]; omega)
                  simp only [List.length_replicate] at hCa
                  have HCA := Lib.hid hCa; clear hCa hbi hbb
                  go_wp2_with fail
                  refine HCA.out.mono ?_
                  rintro e w5 ⟨rfl, hc5⟩
                  replace hcur := hcur.trans hc5 (by simp)
                  clear hc5 HCA
                  go_wp2_with fail
                  refine ⟨rfl, hK _ _ ?_⟩; clear hK K
                  refine Ord.St.fl2 (T' := ?_) 11 [12, 13, 14, 15, 16, 17, 18, 19, 20, 21, 22] _ _ rfl (by kernel_rfl) rfl rfl rfl rfl (fun K w' hk => ?_) ?_
                  rotate_left
                  · go_step; exact hk
                  refine Ord.St.fl2 (T' := ?_) 12 [13, 14, 15, 16, 17, 18, 19, 20, 21, 22] _ _ rfl (by kernel_rfl) rfl rfl rfl rfl (fun K w' hk => ?_) ?_
                  rotate_left
                  · go_step; exact hk
                  first | (refine Ord.St.fl2 (T' := ?_) 13 [14, 15, 16, 17, 18, 19, 20, 21, 22] _ _ rfl (by kernel_rfl) ?_ rfl rfl rfl (fun K w' hk => ?_) ?_; rotate_left; (first | rfl | (simp [Region.wanted, yielded, *]; done)); focus (go_step; exact hk)) | (refine Ord.St.skip 13 [14, 15, 16, 17, 18, 19, 20, 21, 22] _ rfl (by kernel_rfl) ?_ (fun K hK => ?_); (first | rfl | (simp [Region.wanted, yielded, *]; done)); go_simp; refine hK _ ?_; clear hK K)
                  first | (refine Ord.St.fl2 (T' := ?_) 14 [15, 16, 17, 18, 19, 20, 21, 22] _ _ rfl (by kernel_rfl) ?_ rfl rfl rfl (fun K w' hk => ?_) ?_; rotate_left; (first | rfl | (simp [Region.wanted, yielded, *]; done)); focus (go_step; exact hk)) | (refine Ord.St.skip 14 [15, 16, 17, 18, 19, 20, 21, 22] _ rfl (by kernel_rfl) ?_ (fun K hK => ?_); (first | rfl | (simp [Region.wanted, yielded, *]; done)); go_simp; refine hK _ ?_; clear hK K)
                  first | (refine Ord.St.fl2 (T' := ?_) 16 [15, 17, 18, 19, 20, 21, 22] _ _ rfl (by kernel_rfl) ?_ rfl rfl rfl (fun K w' hk => ?_) ?_; rotate_left; (first | rfl | (simp [Region.wanted, yielded, *]; done)); focus (go_step; exact hk)) | (refine Ord.St.skip 16 [15, 17, 18, 19, 20, 21, 22] _ rfl (by kernel_rfl) ?_ (fun K hK => ?_); (first | rfl | (simp [Region.wanted, yielded, *]; done)); go_simp; refine hK _ ?_; clear hK K)
                  first | (refine Ord.St.fl2 (T' := ?_) 17 [15, 18, 19, 20, 21, 22] _ _ rfl (by kernel_rfl) ?_ rfl rfl rfl (fun K w' hk => ?_) ?_; rotate_left; (first | rfl | (simp [Region.wanted, yielded, *]; done)); focus (go_step; exact hk)) | (refine Ord.St.skip 17 [15, 18, 19, 20, 21, 22] _ rfl (by kernel_rfl) ?_ (fun K hK => ?_); (first | rfl | (simp [Region.wanted, yielded, *]; done)); go_simp; refine hK _ ?_; clear hK K)
                  first | (refine Ord.St.fl2 (T' := ?_) 18 [15, 19, 20, 21, 22] _ _ rfl (by kernel_rfl) ?_ rfl rfl rfl (fun K w' hk => ?_) ?_; rotate_left; (first | rfl | (simp [Region.wanted, yielded, *]; done)); focus (go_step; exact hk)) | (refine Ord.St.skip 18 [15, 19, 20, 21, 22] _ rfl (by kernel_rfl) ?_ (fun K hK => ?_); (first | rfl | (simp [Region.wanted, yielded, *]; done)); go_simp; refine hK _ ?_; clear hK K)
                  refine Ord.St.two 15 19 [19, 20, 21, 22] [15, 20, 21, 22] _ _ (by kernel_rfl) rfl rfl (by kernel_rfl) (by kernel_rfl) (fun K hK => ?_) (fun K hK => ?_)
                  · go_wp2_with fail
                    refine ⟨rfl, hK _ _ ?_ ?_⟩
                    · trivial
                    clear hK K
                    refine Ord.St.alw ?_; intro Wn hWn
                    have hbi := alw_blk (xs := intCells [4, 9]) hWn
                    try replace hbb := hbb.ch (alw_ch hWn) (by simp)
                    replace hcur := hcur.trans (alw_ch hWn) (by simp)
                    clear hWn
                    refine Ord.St.ef 19 [20, 21, 22] _ rfl (by kernel_rfl) (fun K hK => ?_)
                    go_wp2_with fail
                    refine ⟨rfl, hK _ _ ?_⟩; clear hK K
                    refine Ord.St.alw ?_; intro Wn hWn
                    have hbb := alw_blk (xs := bools [true, ((x : Int) % 2 == 1)]) hWn
                    try replace hbi := hbi.ch (alw_ch hWn) (by simp)
                    replace hcur := hcur.trans (alw_ch hWn) (by simp)
                    clear hWn
                    refine Ord.St.ef 20 [21, 22] _ rfl (by kernel_rfl) (fun K hK => ?_)
                    have hCa := words23_is hx32 z (l := [4, 9]) (vs := [true, ((x : Int) % 2 == 1)]) 2 2 (blk.slA hbi (by simp)) (blk.sb hbb (by simp)) (by simp) (by simp) (fun r hr => by simp at hr; omega)
                    have HCA := Lib.hid hCa; clear hCa hbi hbb
                    go_wp2_with fail
                    refine HCA.out.mono ?_
                    rintro e w6 ⟨rfl, hc6⟩
                    replace hcur := hcur.trans hc6 (by simp)
                    clear hc6 HCA
                    go_wp2_with fail
                    refine ⟨rfl, hK _ _ ?_⟩; clear hK K
                    first | (refine Ord.St.fl2 (T' := ?_) 21 [22] _ _ rfl (by kernel_rfl) ?_ rfl rfl rfl (fun K w' hk => ?_) ?_; rotate_left; (first | rfl | (simp [Region.wanted, yielded, *]; done)); focus (go_step; exact hk)) | (refine Ord.St.skip 21 [22] _ rfl (by kernel_rfl) ?_ (fun K hK => ?_); (first | rfl | (simp [Region.wanted, yielded, *]; done)); go_simp; refine hK _ ?_; clear hK K)
                    refine Ord.St.fl2 (T' := ?_) 22 [] _ _ rfl (by kernel_rfl) rfl rfl rfl rfl (fun K w' hk => ?_) ?_
                    rotate_left
                    · go_step; exact hk
                    refine Ord.St.nil ?_
                    go_wp2_with fail
                    go_meet
                    case rel => exact ⟨rfl, hcur⟩
                  · go_wp2_with fail
                    refine ⟨rfl, hK _ _ ?_ ?_⟩
                    · trivial
                    clear hK K
                    refine Ord.St.alw ?_; intro Wn hWn
                    have hbb := alw_blk (xs := bools [true, ((x : Int) % 2 == 1)]) hWn
                    try replace hbi := hbi.ch (alw_ch hWn) (by simp)
                    replace hcur := hcur.trans (alw_ch hWn) (by simp)
                    clear hWn
                    refine Ord.St.ef 15 [20, 21, 22] _ rfl (by kernel_rfl) (fun K hK => ?_)
                    go_wp2_with fail
                    refine ⟨rfl, hK _ _ ?_⟩; clear hK K
                    refine Ord.St.alw ?_; intro Wn hWn
                    have hbi := alw_blk (xs := intCells [4, 9]) hWn
                    try replace hbb := hbb.ch (alw_ch hWn) (by simp)
                    replace hcur := hcur.trans (alw_ch hWn) (by simp)
                    clear hWn
                    refine Ord.St.ef 20 [21, 22] _ rfl (by kernel_rfl) (fun K hK => ?_)
                    have hCa := words23_is hx32 z (l := [4, 9]) (vs := [true, ((x : Int) % 2 == 1)]) 2 2 (blk.slA hbi (by simp)) (blk.sb hbb (by simp)) (by simp) (by simp) (fun r hr => by simp at hr; omega)
                    have HCA := Lib.hid hCa; clear hCa hbi hbb
                    go_wp2_with fail
                    refine HCA.out.mono ?_
                    rintro e w6 ⟨rfl, hc6⟩
                    replace hcur := hcur.trans hc6 (by simp)
                    clear hc6 HCA
                    go_wp2_with fail
                    refine ⟨rfl, hK _ _ ?_⟩; clear hK K
                    first | (refine Ord.St.fl2 (T' := ?_) 21 [22] _ _ rfl (by kernel_rfl) ?_ rfl rfl rfl (fun K w' hk => ?_) ?_; rotate_left; (first | rfl | (simp [Region.wanted, yielded, *]; done)); focus (go_step; exact hk)) | (refine Ord.St.skip 21 [22] _ rfl (by kernel_rfl) ?_ (fun K hK => ?_); (first | rfl | (simp [Region.wanted, yielded, *]; done)); go_simp; refine hK _ ?_; clear hK K)
                    refine Ord.St.fl2 (T' := ?_) 22 [] _ _ rfl (by kernel_rfl) rfl rfl rfl rfl (fun K w' hk => ?_) ?_
                    rotate_left
                    · go_step; exact hk
                    refine Ord.St.nil ?_
                    go_wp2_with fail
                    go_meet
                    case rel => exact ⟨rfl, hcur⟩
                · go_wp2_with fail
                  refine ⟨rfl, hK _ _ ?_ ?_⟩
                  · trivial
                  clear hK K
                  refine Ord.St.alw ?_; intro Wn hWn
                  have hbb := alw_blk hWn
                  try replace hbi := hbi.ch (alw_ch hWn) (by simp)
                  replace hcur := hcur.trans (alw_ch hWn) (by simp)
                  clear hWn
                  refine Ord.St.ef 5 [10, 11, 12, 13, 14, 15, 16, 17, 18, 19, 20, 21, 22] _ rfl (by kernel_rfl) (fun K hK => ?_)
                  go_wp2_with fail
                  refine ⟨rfl, hK _ _ ?_⟩; clear hK K
                  refine Ord.St.alw ?_; intro Wn hWn
                  have hbi := alw_blk hWn
                  try replace hbb := hbb.ch (alw_ch hWn) (by simp)
                  replace hcur := hcur.trans (alw_ch hWn) (by simp)
                  clear hWn
                  refine Ord.St.ef 10 [11, 12, 13, 14, 15, 16, 17, 18, 19, 20, 21, 22] _ rfl (by kernel_rfl) (fun K hK => ?_)
                  rw [met_ints] at hbi
                  have hCa := words23_is hx32 z (l := List.replicate m1 0) (vs := List.replicate m2 false) m1 m2 (blk.slA hbi (by simp; omega)) (blk.sb hbb (by simp; omega)) (by simp; omega) (by simp; omega) (fun r hr => by rw [(List.mem_replicate.1 hr).2]; omega)
                  simp only [List.length_replicate] at hCa
                  have HCA := Lib.hid hCa; clear hCa hbi hbb
                  go_wp2_with fail
                  refine HCA.out.mono ?_
                  rintro e w5 ⟨rfl, hc5⟩
                  replace hcur := hcur.trans hc5 (by simp)
                  clear hc5 HCA
                  go_wp2_with fail
                  refine ⟨rfl, hK _ _ ?_⟩; clear hK K
                  refine Ord.St.fl2 (T' := ?_) 11 [12, 13, 14, 15, 16, 17, 18, 19, 20, 21, 22] _ _ rfl (by kernel_rfl) rfl rfl rfl rfl (fun K w' hk => ?_) ?_
                  rotate_left
                  · go_step; exact hk
                  refine Ord.St.fl2 (T' := ?_) 12 [13, 14, 15, 16, 17, 18, 19, 20, 21, 22] _ _ rfl (by kernel_rfl) rfl rfl rfl rfl (fun K w' hk => ?_) ?_
                  rotate_left
                  · go_step; exact hk
                  first | (refine Ord.St.fl2 (T' := ?_) 13 [14, 15, 16, 17, 18, 19, 20, 21, 22] _ _ rfl (by kernel_rfl) ?_ rfl rfl rfl (fun K w' hk => ?_) ?_; rotate_left; (first | rfl | (simp [Region.wanted, yielded, *]; done)); focus (go_step; exact hk)) | (refine Ord.St.skip 13 [14, 15, 16, 17, 18, 19, 20, 21, 22] _ rfl (by kernel_rfl) ?_ (fun K hK => ?_); (first | rfl | (simp [Region.wanted, yielded, *]; done)); go_simp; refine hK _ ?_; clear hK K)
                  first | (refine Ord.St.fl2 (T' := ?_) 14 [15, 16, 17, 18, 19, 20, 21, 22] _ _ rfl (by kernel_rfl) ?_ rfl rfl rfl (fun K w' hk => ?_) ?_; rotate_left; (first | rfl | (simp [Region.wanted, yielded, *]; done)); focus (go_step; exact hk)) | (refine Ord.St.skip 14 [15, 16, 17, 18, 19, 20, 21, 22] _ rfl (by kernel_rfl) ?_ (fun K hK => ?_); (first | rfl | (simp [Region.wanted, yielded, *]; done)); go_simp; refine hK _ ?_; clear hK K)
                  first | (refine Ord.St.fl2 (T' := ?_) 16 [15, 17, 18, 19, 20, 21, 22] _ _ rfl (by kernel_rfl) ?_ rfl rfl rfl (fun K w' hk => ?_) ?_; rotate_left; (first | rfl | (simp [Region.wanted, yielded, *]; done)); focus (go_step; exact hk)) | (refine Ord.St.skip 16 [15, 17, 18, 19, 20, 21, 22] _ rfl (by kernel_rfl) ?_ (fun K hK => ?_); (first | rfl | (simp [Region.wanted, yielded, *]; done)); go_simp; refine hK _ ?_; clear hK K)
                  first | (refine Ord.St.fl2 (T' := ?_) 17 [15, 18, 19, 20, 21, 22] _ _ rfl (by kernel_rfl) ?_ rfl rfl rfl (fun K w' hk => ?_) ?_; rotate_left; (first | rfl | (simp [Region.wanted, yielded, *]; done)); focus (go_step; exact hk)) | (refine Ord.St.skip 17 [15, 18, 19, 20, 21, 22] _ rfl (by kernel_rfl) ?_ (fun K hK => ?_); (first | rfl | (simp [Region.wanted, yielded, *]; done)); go_simp; refine hK _ ?_; clear hK K)
                  first | (refine Ord.St.fl2 (T' := ?_) 18 [15, 19, 20, 21, 22] _ _ rfl (by kernel_rfl) ?_ rfl rfl rfl (fun K w' hk => ?_) ?_; rotate_left; (first | rfl | (simp [Region.wanted, yielded, *]; done)); focus (go_step; exact hk)) | (refine Ord.St.skip 18 [15, 19, 20, 21, 22] _ rfl (by kernel_rfl) ?_ (fun K hK => ?_); (first | rfl | (simp [Region.wanted, yielded, *]; done)); go_simp; refine hK _ ?_; clear hK K)
                  refine Ord.St.two 15 19 [19, 20, 21, 22] [15, 20, 21, 22] _ _ (by kernel_rfl) rfl rfl (by kernel_rfl) (by kernel_rfl) (fun K hK => ?_) (fun K hK => ?_)
                  · go_wp2_with fail
                    refine ⟨rfl, hK _ _ ?_ ?_⟩
                    · trivial
                    clear hK K
                    refine Ord.St.alw ?_; intro Wn hWn
                    have hbi := alw_blk (xs := intCells [4, 9]) hWn
                    try replace hbb := hbb.ch (alw_ch hWn) (by simp)
                    replace hcur := hcur.trans (alw_ch hWn) (by simp)
                    clear hWn
                    refine Ord.St.ef 19 [20, 21, 22] _ rfl (by kernel_rfl) (fun K hK => ?_)
                    go_wp2_with fail
                    refine ⟨rfl, hK _ _ ?_⟩; clear hK K
                    refine Ord.St.alw ?_; intro Wn hWn
                    have hbb := alw_blk (xs := bools [true, ((x : Int) % 2 == 1)]) hWn
                    try replace hbi := hbi.ch (alw_ch hWn) (by simp)
                    replace hcur := hcur.trans (alw_ch hWn) (by simp)
                    clear hWn
                    refine Ord.St.ef 20 [21, 22] _ rfl (by kernel_rfl) (fun K hK => ?_)
                    have hCa := words23_is hx32 z (l := [4, 9]) (vs := [true, ((x : Int) % 2 == 1)]) 2 2 (blk.slA hbi (by simp)) (blk.sb hbb (by simp)) (by simp) (by simp) (fun r hr => by simp at hr; omega)
                    have HCA := Lib.hid hCa; clear hCa hbi hbb
                    go_wp2_with fail
                    refine HCA.out.mono ?_
                    rintro e w6 ⟨rfl, hc6⟩
                    replace hcur := hcur.trans hc6 (by simp)
                    clear hc6 HCA
                    go_wp2_with fail
                    refine ⟨rfl, hK _ _ ?_⟩; clear hK K
                    first | (refine Ord.St.fl2 (T' := ?_) 21 [22] _ _ rfl (by kernel_rfl) ?_ rfl rfl rfl (fun K w' hk => ?_) ?_; rotate_left; (first | rfl | (simp [Region.wanted, yielded, *]; done)); focus (go_step; exact hk)) | (refine Ord.St.skip 21 [22] _ rfl (by kernel_rfl) ?_ (fun K hK => ?_); (first | rfl | (simp [Region.wanted, yielded, *]; done)); go_simp; refine hK _ ?_; clear hK K)
                    refine Ord.St.fl2 (T' := ?_) 22 [] _ _ rfl (by kernel_rfl) rfl rfl rfl rfl (fun K w' hk => ?_) ?_
                    rotate_left
                    · go_step; exact hk
                    refine Ord.St.nil ?_
                    go_wp2_with fail
                    go_meet
                    case rel => exact ⟨rfl, hcur⟩
                  · go_wp2_with fail
                    refine ⟨rfl, hK _ _ ?_ ?_⟩
                    · trivial
                    clear hK K
                    refine Ord.St.alw ?_; intro Wn hWn
                    have hbb := alw_blk (xs := bools [true, ((x : Int) % 2 == 1)]) hWn
                    try replace hbi := hbi.ch (alw_ch hWn) (by simp)
                    replace hcur := hcur.trans (alw_ch hWn) (by simp)
                    clear hWn
                    refine Ord.St.ef 15 [20, 21, 22] _ rfl (by kernel_rfl) (fun K hK => ?_)
                    go_wp2_with fail
                    refine ⟨rfl, hK _ _ ?_⟩; clear hK K
                    refine Ord.St.alw ?_; intro Wn hWn
                    have hbi := alw_blk (xs := intCells [4, 9]) hWn
                    try replace hbb := hbb.ch (alw_ch hWn) (by simp)
                    replace hcur := hcur.trans (alw_ch hWn) (by simp)
                    clear hWn
                    refine Ord.St.ef 20 [21, 22] _ rfl (by kernel_rfl) (fun K hK => ?_)
                    have hCa := words23_is hx32 z (l := [4, 9]) (vs := [true, ((x : Int) % 2 == 1)]) 2 2 (blk.slA hbi (by simp)) (blk.sb hbb (by simp)) (by simp) (by simp) (fun r hr => by simp at hr; omega)
                    have HCA := Lib.hid hCa; clear hCa hbi hbb
                    go_wp2_with fail
                    refine HCA.out.mono ?_
                    rintro e w6 ⟨rfl, hc6⟩
                    replace hcur := hcur.trans hc6 (by simp)
                    clear hc6 HCA
                    go_wp2_with fail
                    refine ⟨rfl, hK _ _ ?_⟩; clear hK K
                    first | (refine Ord.St.fl2 (T' := ?_) 21 [22] _ _ rfl (by kernel_rfl) ?_ rfl rfl rfl (fun K w' hk => ?_) ?_; rotate_left; (first | rfl | (simp [Region.wanted, yielded, *]; done)); focus (go_step; exact hk)) | (refine Ord.St.skip 21 [22] _ rfl (by kernel_rfl) ?_ (fun K hK => ?_); (first | rfl | (simp [Region.wanted, yielded, *]; done)); go_simp; refine hK _ ?_; clear hK K)
                    refine Ord.St.fl2 (T' := ?_) 22 [] _ _ rfl (by kernel_rfl) rfl rfl rfl rfl (fun K w' hk => ?_) ?_
                    rotate_left
                    · go_step; exact hk
                    refine Ord.St.nil ?_
                    go_wp2_with fail
                    go_meet
                    case rel => exact ⟨rfl, hcur⟩
              case rest =>
                obtain ⟨rfl, hcd⟩ := hcut
                have HCD := Lib.hid hcd; clear hcd c1
                go_wp2_with fail
                go_roundw
                case rel => exact ⟨j + 1, by omega, by go_num, HC.out.trans HCD.out (by simp), HCW.out.trans HCD.out (by simp), HCW2.out.trans HCD.out (by simp)⟩
                case measure => simp [intOf]; omega
            · have HC := Lib.hid hc; clear hc
              have HCW := Lib.hid hcW; clear hcW hcW2
              go_wp2_with fail
              go_roundw
              case rel => exact ⟨k + 1, by omega, by go_num, HC.out, HCW.out⟩
              case measure => simp [intOf]; omega
        · have HC := Lib.hid hc; clear hc hcW HB
          go_wp2_with fail
          refine none23_is.mono ?_
          rintro e w2 ⟨rfl, hc2⟩
          have HC2 := Lib.hid (HC.out.trans hc2 (by simp)); clear hc2
          go_wp2_with fail
          refine (HAW.out _).mono ?_
          rintro e w3 ⟨rfl, hc3⟩
          have HC3 := Lib.hid hc3; clear hc3
          go_wp2_with fail
          go_ret
          exact ⟨rfl, HC2.out.trans HC3.out (by simp)⟩
end
end Go.Proofs.YtchledddgmbndaaGreat
