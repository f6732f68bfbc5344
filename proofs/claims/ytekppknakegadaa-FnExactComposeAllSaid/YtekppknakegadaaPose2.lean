/-
  Contracts of the pose functions. Written by an AI agent.
-/
import Derived.Test.YtekppknakegadaaPose
namespace Go.Proofs.Ytekppknakegadaa
open Go.RowKit

def validB (t x y : Int) : Bool := inB t 0 3 && inB x (-1000000) 1000000 && inB y (-1000000) 1000000

set_option maxHeartbeats 400000 in
theorem spec_IsValidPose (t x y : Int) (w : World) :
    Calls Try.prog 59 #[.agg #[.int .i64 t, .int .i64 x, .int .i64 y]] w fun e w' => e = .returned (.bool (validB t x y)) ∧ Below w.heap.size w w' := by
  cases h1 : inB t 0 3
  · go_enter Try.func59, Try.ntmps59
    go_wp2_with (first | (go_at_call 78; refine (l01In_any _ _ _ _).mono ?_; rintro e w' ⟨rfl, rfl⟩))
    go_ret
    exact ⟨ret_bool (by simp [validB, *]), (Below.refl _ _).alloc (Nat.le_refl _) _⟩
  · cases h2 : inB x (-1000000) 1000000
    · go_enter Try.func59, Try.ntmps59
      go_wp2_with (first | (go_at_call 78; refine (l01In_any _ _ _ _).mono ?_; rintro e w' ⟨rfl, rfl⟩))
      go_ret
      exact ⟨ret_bool (by simp [validB, *]), (Below.refl _ _).alloc (Nat.le_refl _) _⟩
    · go_enter Try.func59, Try.ntmps59
      go_wp2_with (first | (go_at_call 78; refine (l01In_any _ _ _ _).mono ?_; rintro e w' ⟨rfl, rfl⟩))
      go_ret
      exact ⟨ret_bool (by simp [validB, *]), (Below.refl _ _).alloc (Nat.le_refl _) _⟩

set_option maxHeartbeats 400000 in
theorem impl_IsValidPose (t x y : Int) (w : World) :
    Calls Try.prog 61 #[.agg #[.int .i64 t, .int .i64 x, .int .i64 y]] w fun e w' => e = .returned (.bool (validB t x y)) ∧ Below w.heap.size w w' := by
  by_cases h1 : 0 ≤ t
  · by_cases h2 : t ≤ 3
    · have h3 : inB t 0 3 = true := by simp [inB]; omega
      cases h4 : inB x (-1000000) 1000000
      · go_enter Try.func61, Try.ntmps61
        go_wp2_with (first | (go_at_call 79; refine (inRange_any _ _).mono ?_; rintro e w' ⟨rfl, rfl⟩))
        go_ret
        exact ⟨ret_bool (by simp [validB, *]), (Below.refl _ _).alloc (Nat.le_refl _) _⟩
      · go_enter Try.func61, Try.ntmps61
        go_wp2_with (first | (go_at_call 79; refine (inRange_any _ _).mono ?_; rintro e w' ⟨rfl, rfl⟩))
        go_ret
        exact ⟨ret_bool (by simp [validB, *]), (Below.refl _ _).alloc (Nat.le_refl _) _⟩
    · have h3 : inB t 0 3 = false := by simp [inB]; omega
      go_enter Try.func61, Try.ntmps61
      go_wp2_with (first | (go_at_call 79; refine (inRange_any _ _).mono ?_; rintro e w' ⟨rfl, rfl⟩))
      go_ret
      exact ⟨ret_bool (by simp [validB, *]), (Below.refl _ _).alloc (Nat.le_refl _) _⟩
  · have h3 : inB t 0 3 = false := by simp [inB]; omega
    go_enter Try.func61, Try.ntmps61
    go_wp2_with (first | (go_at_call 79; refine (inRange_any _ _).mono ?_; rintro e w' ⟨rfl, rfl⟩))
    go_ret
    exact ⟨ret_bool (by simp [validB, *]), (Below.refl _ _).alloc (Nat.le_refl _) _⟩
end Go.Proofs.Ytekppknakegadaa
