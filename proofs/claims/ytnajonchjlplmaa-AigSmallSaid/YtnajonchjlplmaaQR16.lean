/-
  Walks over the package's functions at graphs that are none: nil, and the zero value. Conditions: such a graph.
-/
import Derived.Test.YtnajonchjlplmaaQR15
namespace Go.Proofs.Ytnajonchjlplmaa
open Go.RowKit Go.Mem Go.Aig
/-- a graph that is none: 'none' says so, here and in all worlds that come of it -/
def NoG (w : World) (v : Value) : Prop := ∀ W, Ch [] w W → Calls Try.prog 42 #[v] W fun e w' => e = .returned (.bool true) ∧ W = w'
theorem NoG.ch {w W : World} {v : Value} (h : NoG w v) (hc : Ch [] w W) : NoG W v := fun U hU => h U (hc.trans hU (by simp))
section
set_option maxRecDepth 100000 in
set_option maxHeartbeats 400000 in
theorem nog_nil (w : World) : NoG w (.pointer none) := fun W _ => by
  go_enter Try.func42, Try.ntmps42
  go_wp2_with fail
  go_ret
  exact ⟨rfl, rfl⟩
set_option maxRecDepth 100000 in
set_option maxHeartbeats 400000 in
theorem nog_zero {w : World} {g : Nat} (h : blk w g [.int .i64 0, .slice none 0 0, .map none, .slice none 0 0]) : NoG w (.pointer (some ⟨g, 0, none⟩)) := fun W hW => by
  have c2 := (h.ch hW (by simp)).cell (i := 2) rfl
  clear h
  go_enter Try.func42, Try.ntmps42
  go_wp2_with fail
  go_ret
  exact ⟨rfl, rfl⟩
set_option maxRecDepth 100000 in
set_option maxHeartbeats 400000 in
theorem Len_nil {w : World} {p : Option Addr} (h : NoG w (.pointer p)) : Calls Try.prog 16 #[.pointer p] w fun e w' => e = .returned (.int .i64 0) ∧ Ch [] w w' := by
  have H := Lib.hid h; clear h
  go_enter Try.func16, Try.ntmps16
  go_wp2_with fail
  refine (H.out _ ?hc).mono ?_
  case hc => repeat (first | refine Ch.alloc ?_ _ | exact Ch.refl _ _)
  rintro e w' ⟨rfl, rfl⟩
  go_wp2_with fail
  go_ret
  exact ⟨rfl, by repeat (first | refine Ch.alloc ?_ _ | exact Ch.refl _ _)⟩
set_option maxRecDepth 100000 in
set_option maxHeartbeats 400000 in
theorem Room_nil {w : World} {p : Option Addr} (h : NoG w (.pointer p)) : Calls Try.prog 20 #[.pointer p] w fun e w' => e = .returned (.int .i64 0) ∧ Ch [] w w' := by
  have H := Lib.hid h; clear h
  go_enter Try.func20, Try.ntmps20
  go_wp2_with fail
  refine (H.out _ ?hc).mono ?_
  case hc => repeat (first | refine Ch.alloc ?_ _ | exact Ch.refl _ _)
  rintro e w' ⟨rfl, rfl⟩
  go_wp2_with fail
  go_ret
  exact ⟨rfl, by repeat (first | refine Ch.alloc ?_ _ | exact Ch.refl _ _)⟩
set_option maxRecDepth 100000 in
set_option maxHeartbeats 400000 in
theorem Inputs_nil {w : World} {p : Option Addr} (h : NoG w (.pointer p)) : Calls Try.prog 33 #[.pointer p] w fun e w' => e = .returned (.slice none 0 0) ∧ Ch [] w w' := by
  have H := Lib.hid h; clear h
  go_enter Try.func33, Try.ntmps33
  go_wp2_with fail
  refine (H.out _ ?hc).mono ?_
  case hc => repeat (first | refine Ch.alloc ?_ _ | exact Ch.refl _ _)
  rintro e w' ⟨rfl, rfl⟩
  go_wp2_with fail
  go_ret
  exact ⟨rfl, by repeat (first | refine Ch.alloc ?_ _ | exact Ch.refl _ _)⟩
set_option maxRecDepth 100000 in
set_option maxHeartbeats 400000 in
theorem Right_nil {w : World} {p : Option Addr} (h : NoG w (.pointer p)) (r : Int) : Calls Try.prog 14 #[.pointer p, .int .i64 r] w fun e w' => e = .returned (.bool false) ∧ Ch [] w w' := by
  have H := Lib.hid h; clear h
  go_enter Try.func14, Try.ntmps14
  go_wp2_with fail
  refine (H.out _ ?hc).mono ?_
  case hc => repeat (first | refine Ch.alloc ?_ _ | exact Ch.refl _ _)
  rintro e w' ⟨rfl, rfl⟩
  go_wp2_with fail
  go_ret
  exact ⟨rfl, by repeat (first | refine Ch.alloc ?_ _ | exact Ch.refl _ _)⟩
set_option maxRecDepth 100000 in
set_option maxHeartbeats 400000 in
theorem Kind_nil {w : World} {p : Option Addr} (h : NoG w (.pointer p)) (r : Int) : Calls Try.prog 28 #[.pointer p, .int .i64 r] w fun e w' => e = .returned (.int .u8 0) ∧ Ch [] w w' := by
  have H := Lib.hid h; clear h
  go_enter Try.func28, Try.ntmps28
  go_wp2_with fail
  refine (Right_nil ?hn r).mono ?_
  case hn => refine NoG.ch H.out ?_; repeat (first | refine Ch.alloc ?_ _ | exact Ch.refl _ _)
  rintro e w' ⟨rfl, hc⟩
  have HC := Lib.hid hc; clear hc
  go_wp2_with fail
  go_ret
  exact ⟨rfl, HC.out⟩
set_option maxRecDepth 100000 in
set_option maxHeartbeats 400000 in
theorem Sides_nil {w : World} {p : Option Addr} (h : NoG w (.pointer p)) (r : Int) : Calls Try.prog 17 #[.pointer p, .int .i64 r] w fun e w' => e = .returned (.tuple #[.int .i64 0, .int .i64 0, .bool false]) ∧ Ch [] w w' := by
  have H := Lib.hid h; clear h
  go_enter Try.func17, Try.ntmps17
  go_wp2_with fail
  refine (Kind_nil ?hn r).mono ?_
  case hn => refine NoG.ch H.out ?_; repeat (first | refine Ch.alloc ?_ _ | exact Ch.refl _ _)
  rintro e w' ⟨rfl, hc⟩
  have HC := Lib.hid hc; clear hc
  go_wp2_with fail
  go_ret3
  exact ⟨rfl, HC.out⟩
set_option maxRecDepth 100000 in
set_option maxHeartbeats 400000 in
theorem Depth_nil {w : World} {p : Option Addr} (h : NoG w (.pointer p)) (r : Int) : Calls Try.prog 27 #[.pointer p, .int .i64 r] w fun e w' => e = .returned (.tuple #[.int .i64 0, .int .i64 1]) ∧ Ch [] w w' := by
  have H := Lib.hid h; clear h
  go_enter Try.func27, Try.ntmps27
  go_wp2_with fail
  refine (H.out _ ?hc).mono ?_
  case hc => repeat (first | refine Ch.alloc ?_ _ | exact Ch.refl _ _)
  rintro e w' ⟨rfl, rfl⟩
  go_wp2_with fail
  go_ret2
  exact ⟨rfl, by repeat (first | refine Ch.alloc ?_ _ | exact Ch.refl _ _)⟩
set_option maxRecDepth 100000 in
set_option maxHeartbeats 400000 in
theorem Cut_nil {w : World} {p : Option Addr} (h : NoG w (.pointer p)) (n : Int) : Calls Try.prog 29 #[.pointer p, .int .i64 n] w fun e w' => e = .returned (.int .i64 1) ∧ Ch [] w w' := by
  have H := Lib.hid h; clear h
  go_enter Try.func29, Try.ntmps29
  go_wp2_with fail
  refine (H.out _ ?hc).mono ?_
  case hc => repeat (first | refine Ch.alloc ?_ _ | exact Ch.refl _ _)
  rintro e w' ⟨rfl, rfl⟩
  go_wp2_with fail
  go_ret
  exact ⟨rfl, by repeat (first | refine Ch.alloc ?_ _ | exact Ch.refl _ _)⟩
set_option maxRecDepth 100000 in
set_option maxHeartbeats 400000 in
theorem Input_nil {w : World} {p : Option Addr} (h : NoG w (.pointer p)) : Calls Try.prog 39 #[.pointer p] w fun e w' => e = .returned (.tuple #[.int .i64 0, .int .i64 1]) ∧ Ch [] w w' := by
  have H := Lib.hid h; clear h
  go_enter Try.func39, Try.ntmps39
  go_wp2_with fail
  refine (H.out _ ?hc).mono ?_
  case hc => repeat (first | refine Ch.alloc ?_ _ | exact Ch.refl _ _)
  rintro e w' ⟨rfl, rfl⟩
  go_wp2_with fail
  go_ret2
  exact ⟨rfl, by repeat (first | refine Ch.alloc ?_ _ | exact Ch.refl _ _)⟩
set_option maxRecDepth 100000 in
set_option maxHeartbeats 400000 in
theorem Cone_nil {w : World} {p : Option Addr} (h : NoG w (.pointer p)) (a : Option Addr) (n cap : Nat) : Calls Try.prog 26 #[.pointer p, .slice a n cap] w fun e w' => e = .returned (.tuple #[.slice none 0 0, .int .i64 1]) ∧ Ch [] w w' := by
  have H := Lib.hid h; clear h
  go_enter Try.func26, Try.ntmps26
  go_wp2_with fail
  refine (H.out _ ?hc).mono ?_
  case hc => repeat (first | refine Ch.alloc ?_ _ | exact Ch.refl _ _)
  rintro e w' ⟨rfl, rfl⟩
  go_wp2_with fail
  go_ret2
  exact ⟨rfl, by repeat (first | refine Ch.alloc ?_ _ | exact Ch.refl _ _)⟩
set_option maxRecDepth 100000 in
set_option maxHeartbeats 400000 in
theorem make_nil {w : World} {p : Option Addr} (h : NoG w (.pointer p)) (f : Value) (a : Option Addr) (n cap : Nat) : Calls Try.prog 43 #[.pointer p, f, .slice a n cap] w fun e w' => e = .returned (.tuple #[.int .i64 0, .int .i64 1]) ∧ Ch [] w w' := by
  have H := Lib.hid h; clear h
  go_enter Try.func43, Try.ntmps43
  go_wp2_with fail
  refine (H.out _ ?hc).mono ?_
  case hc => repeat (first | refine Ch.alloc ?_ _ | exact Ch.refl _ _)
  rintro e w' ⟨rfl, rfl⟩
  go_wp2_with fail
  go_ret2
  exact ⟨rfl, by repeat (first | refine Ch.alloc ?_ _ | exact Ch.refl _ _)⟩
set_option maxRecDepth 100000 in
set_option maxHeartbeats 400000 in
theorem And_nil {w : World} {p : Option Addr} (h : NoG w (.pointer p)) (a b : Int) : Calls Try.prog 18 #[.pointer p, .int .i64 a, .int .i64 b] w fun e w' => e = .returned (.tuple #[.int .i64 0, .int .i64 1]) ∧ Ch [] w w' := by
  have H := Lib.hid h; clear h
  go_enter Try.func18, Try.ntmps18
  go_wp2_with fail
  refine (make_nil ?hn _ _ _ _).mono ?_
  case hn => refine NoG.ch H.out ?_; repeat (first | refine Ch.alloc ?_ _ | exact Ch.refl _ _)
  rintro e w' ⟨rfl, hc⟩
  have hcw : Ch [] w w' := Ch.trans (F' := []) (by repeat (first | refine Ch.alloc ?_ _ | exact Ch.refl _ _)) hc (by simp)
  have HC := Lib.hid hcw; clear hcw hc
  go_wp2_with fail
  go_ret2
  exact ⟨rfl, HC.out⟩
set_option maxRecDepth 100000 in
set_option maxHeartbeats 400000 in
theorem Or_nil {w : World} {p : Option Addr} (h : NoG w (.pointer p)) (a b : Int) : Calls Try.prog 22 #[.pointer p, .int .i64 a, .int .i64 b] w fun e w' => e = .returned (.tuple #[.int .i64 0, .int .i64 1]) ∧ Ch [] w w' := by
  have H := Lib.hid h; clear h
  go_enter Try.func22, Try.ntmps22
  go_wp2_with fail
  refine (make_nil ?hn _ _ _ _).mono ?_
  case hn => refine NoG.ch H.out ?_; repeat (first | refine Ch.alloc ?_ _ | exact Ch.refl _ _)
  rintro e w' ⟨rfl, hc⟩
  have hcw : Ch [] w w' := Ch.trans (F' := []) (by repeat (first | refine Ch.alloc ?_ _ | exact Ch.refl _ _)) hc (by simp)
  have HC := Lib.hid hcw; clear hcw hc
  go_wp2_with fail
  go_ret2
  exact ⟨rfl, HC.out⟩
set_option maxRecDepth 100000 in
set_option maxHeartbeats 400000 in
theorem Xor_nil {w : World} {p : Option Addr} (h : NoG w (.pointer p)) (a b : Int) : Calls Try.prog 23 #[.pointer p, .int .i64 a, .int .i64 b] w fun e w' => e = .returned (.tuple #[.int .i64 0, .int .i64 1]) ∧ Ch [] w w' := by
  have H := Lib.hid h; clear h
  go_enter Try.func23, Try.ntmps23
  go_wp2_with fail
  refine (make_nil ?hn _ _ _ _).mono ?_
  case hn => refine NoG.ch H.out ?_; repeat (first | refine Ch.alloc ?_ _ | exact Ch.refl _ _)
  rintro e w' ⟨rfl, hc⟩
  have hcw : Ch [] w w' := Ch.trans (F' := []) (by repeat (first | refine Ch.alloc ?_ _ | exact Ch.refl _ _)) hc (by simp)
  have HC := Lib.hid hcw; clear hcw hc
  go_wp2_with fail
  go_ret2
  exact ⟨rfl, HC.out⟩
set_option maxRecDepth 100000 in
set_option maxHeartbeats 400000 in
theorem Mux_nil {w : World} {p : Option Addr} (h : NoG w (.pointer p)) (c a b : Int) : Calls Try.prog 24 #[.pointer p, .int .i64 c, .int .i64 a, .int .i64 b] w fun e w' => e = .returned (.tuple #[.int .i64 0, .int .i64 1]) ∧ Ch [] w w' := by
  have H := Lib.hid h; clear h
  go_enter Try.func24, Try.ntmps24
  go_wp2_with fail
  refine (make_nil ?hn _ _ _ _).mono ?_
  case hn => refine NoG.ch H.out ?_; repeat (first | refine Ch.alloc ?_ _ | exact Ch.refl _ _)
  rintro e w' ⟨rfl, hc⟩
  have hcw : Ch [] w w' := Ch.trans (F' := []) (by repeat (first | refine Ch.alloc ?_ _ | exact Ch.refl _ _)) hc (by simp)
  have HC := Lib.hid hcw; clear hcw hc
  go_wp2_with fail
  go_ret2
  exact ⟨rfl, HC.out⟩
set_option maxRecDepth 100000 in
set_option maxHeartbeats 400000 in
theorem All_nil {w : World} {p : Option Addr} (h : NoG w (.pointer p)) (a : Option Addr) (n cap : Nat) : Calls Try.prog 21 #[.pointer p, .slice a n cap] w fun e w' => e = .returned (.tuple #[.int .i64 0, .int .i64 1]) ∧ Ch [] w w' := by
  have H := Lib.hid h; clear h
  go_enter Try.func21, Try.ntmps21
  go_wp2_with fail
  refine (make_nil ?hn _ _ _ _).mono ?_
  case hn => refine NoG.ch H.out ?_; repeat (first | refine Ch.alloc ?_ _ | exact Ch.refl _ _)
  rintro e w' ⟨rfl, hc⟩
  have hcw : Ch [] w w' := Ch.trans (F' := []) (by repeat (first | refine Ch.alloc ?_ _ | exact Ch.refl _ _)) hc (by simp)
  have HC := Lib.hid hcw; clear hcw hc
  go_wp2_with fail
  go_ret2
  exact ⟨rfl, HC.out⟩
set_option maxRecDepth 100000 in
set_option maxHeartbeats 400000 in
theorem Any_nil {w : World} {p : Option Addr} (h : NoG w (.pointer p)) (a : Option Addr) (n cap : Nat) : Calls Try.prog 25 #[.pointer p, .slice a n cap] w fun e w' => e = .returned (.tuple #[.int .i64 0, .int .i64 1]) ∧ Ch [] w w' := by
  have H := Lib.hid h; clear h
  go_enter Try.func25, Try.ntmps25
  go_wp2_with fail
  refine (make_nil ?hn _ _ _ _).mono ?_
  case hn => refine NoG.ch H.out ?_; repeat (first | refine Ch.alloc ?_ _ | exact Ch.refl _ _)
  rintro e w' ⟨rfl, hc⟩
  have hcw : Ch [] w w' := Ch.trans (F' := []) (by repeat (first | refine Ch.alloc ?_ _ | exact Ch.refl _ _)) hc (by simp)
  have HC := Lib.hid hcw; clear hcw hc
  go_wp2_with fail
  go_ret2
  exact ⟨rfl, HC.out⟩
end
end Go.Proofs.Ytnajonchjlplmaa
