/-
  Contracts: the law's copy of a pose; turning a vector. Written by an AI agent.
-/
import Derived.Test.YtekppknakegadaaPose2
namespace Go.Proofs.Ytekppknakegadaa
open Go.RowKit

set_option maxHeartbeats 400000 in
theorem laws_toPose (t x y : Int) (w : World) :
    Calls Try.prog 16 #[.agg #[.int .i64 t, .int .i64 x, .int .i64 y]] w fun e w' => e = .returned (.agg #[.int .i64 t, .int .i64 x, .int .i64 y]) ∧ Below w.heap.size w w' := by
  go_enter Try.func16, Try.ntmps16
  go_wp2
  exact bodyPost_ret (v := .agg #[.int .i64 t, .int .i64 x, .int .i64 y]) (by simp [results, Try.results16, go_sem]) rfl ⟨rfl, by
    repeat (first | exact Below.refl _ _ | refine Below.alloc ?_ (by simp; try omega) _ | refine Below.setCell ?_ (by simp; try omega) _)⟩

/-- k quarter turns. -/
def rotN : Nat → Int × Int → Int × Int
  | 0, p => p
  | k + 1, p => (-(rotN k p).2, (rotN k p).1)
def rotF (x y t : Int) : Int × Int := if validB t x y = true then rotN t.toNat (x, y) else (0, 0)

theorem rotN_in (k : Nat) (p : Int × Int) (h1 : -1000000 ≤ p.1) (h2 : p.1 ≤ 1000000) (h3 : -1000000 ≤ p.2) (h4 : p.2 ≤ 1000000) :
    -1000000 ≤ (rotN k p).1 ∧ (rotN k p).1 ≤ 1000000 ∧ -1000000 ≤ (rotN k p).2 ∧ (rotN k p).2 ≤ 1000000 := by
  induction k with
  | zero => exact ⟨h1, h2, h3, h4⟩
  | succ k ih => simp only [rotN]; omega
theorem validB_iff {t x y : Int} (h : validB t x y = true) : 0 ≤ t ∧ t ≤ 3 ∧ -1000000 ≤ x ∧ x ≤ 1000000 ∧ -1000000 ≤ y ∧ y ≤ 1000000 := by
  simp [validB, inB] at h
  omega
theorem validB_of {t x y : Int} (h : 0 ≤ t ∧ t ≤ 3 ∧ -1000000 ≤ x ∧ x ≤ 1000000 ∧ -1000000 ≤ y ∧ y ≤ 1000000) : validB t x y = true := by
  simp [validB, inB]
  omega
theorem ret_ii {a b : Int} {q : Int × Int} (h : (a, b) = q) : Ending.returned (.tuple #[.int .i64 a, .int .i64 b]) = .returned (.tuple #[.int .i64 q.1, .int .i64 q.2]) := by rw [← h]

set_option maxHeartbeats 400000 in
theorem spec_RotateXY (x y t : Int) (w : World) :
    Calls Try.prog 60 #[.int .i64 x, .int .i64 y, .int .i64 t] w fun e w' => e = .returned (.tuple #[.int .i64 (rotF x y t).1, .int .i64 (rotF x y t).2]) ∧ Below w.heap.size w w' := by
  cases hv : validB t x y
  · go_enter Try.func60, Try.ntmps60
    go_wp2_with (first | (go_at_call 59; refine (spec_IsValidPose _ _ _ _).mono ?_; rintro e w1 ⟨rfl, b1⟩))
    go_ret2
    exact ⟨ret_ii (by simp [rotF, hv]), b1⟩
  · obtain ⟨t0, t3, x1, x2, y1, y2⟩ := validB_iff hv
    go_enter Try.func60, Try.ntmps60
    go_wp2_with (first | (go_at_call 59; refine (spec_IsValidPose _ _ _ _).mono ?_; rintro e w1 ⟨rfl, b1⟩))
    go_loop [0, 1, 8] (fun a b i => ∃ k : Nat, (k : Int) ≤ t ∧ i = .int .i64 k ∧ a = .int .i64 (rotN k (x, y)).1 ∧ b = .int .i64 (rotN k (x, y)).2) (fun _ _ i => (t - intOf i).toNat)
    case atStart => exact ⟨0, by omega, rfl, rfl, rfl⟩
    case round =>
      obtain ⟨k, hk, rfl, rfl, rfl⟩ := hrel
      obtain ⟨g1, g2, g3, g4⟩ := rotN_in k (x, y) x1 x2 y1 y2
      by_cases hlt : (k : Int) < t
      · go_wp2
        go_round
        case rel => exact ⟨k + 1, by omega, by go_num, rfl, rfl⟩
        case measure => simp [intOf]; omega
      · have hkt : k = t.toNat := by omega
        have HK := Lib.hid hkt; clear hkt
        go_wp2
        go_ret2
        exact ⟨ret_ii (by simp [rotF, hv, HK.out]), b1⟩

set_option maxHeartbeats 400000 in
theorem impl_RotateXY_same (x y t : Int) (w : World) :
    Calls Try.prog 62 #[.int .i64 x, .int .i64 y, .int .i64 t] w fun e w' => e = .returned (.tuple #[.int .i64 (rotF x y t).1, .int .i64 (rotF x y t).2]) ∧ w = w' := by
  by_cases t0 : 0 ≤ t
  · by_cases t3 : t ≤ 3
    · have ht : inB t 0 3 = true := by simp [inB]; omega
      cases hx : inB x (-1000000) 1000000
      · go_enter Try.func62, Try.ntmps62
        go_wp2_with (first | (go_at_call 79; refine (inRange_any _ _).mono ?_; rintro e w1 ⟨rfl, rfl⟩))
        go_ret2
        exact ⟨ret_ii (by simp [rotF, validB, hx]), rfl⟩
      · cases hy : inB y (-1000000) 1000000
        · go_enter Try.func62, Try.ntmps62
          go_wp2_with (first | (go_at_call 79; refine (inRange_any _ _).mono ?_; rintro e w1 ⟨rfl, rfl⟩))
          go_ret2
          exact ⟨ret_ii (by simp [rotF, validB, hy]), rfl⟩
        · have hv : validB t x y = true := by simp [validB, ht, hx, hy]
          obtain ⟨_, _, x1, x2, y1, y2⟩ := validB_iff hv
          go_enter Try.func62, Try.ntmps62
          go_wp2_with (first | (go_at_call 79; refine (inRange_any _ _).mono ?_; rintro e w1 ⟨rfl, rfl⟩))
          go_loop [0, 1, 8] (fun a b i => ∃ k : Nat, (k : Int) ≤ t ∧ i = .int .i64 k ∧ a = .int .i64 (rotN k (x, y)).1 ∧ b = .int .i64 (rotN k (x, y)).2) (fun _ _ i => (t - intOf i).toNat)
          case atStart => exact ⟨0, by omega, rfl, rfl, rfl⟩
          case round =>
            obtain ⟨k, hk, rfl, rfl, rfl⟩ := hrel
            obtain ⟨g1, g2, g3, g4⟩ := rotN_in k (x, y) x1 x2 y1 y2
            by_cases hlt : (k : Int) < t
            · go_wp2
              go_round
              case rel => exact ⟨k + 1, by omega, by go_num, rfl, rfl⟩
              case measure => simp [intOf]; omega
            · have hkt : k = t.toNat := by omega
              have HK := Lib.hid hkt; clear hkt
              go_wp2
              go_ret2
              exact ⟨ret_ii (by simp [rotF, hv, HK.out]), rfl⟩
    · go_enter Try.func62, Try.ntmps62
      go_wp2
      go_ret2
      exact ⟨ret_ii (by simp [rotF, validB, inB]; omega), rfl⟩
  · go_enter Try.func62, Try.ntmps62
    go_wp2
    go_ret2
    exact ⟨ret_ii (by simp [rotF, validB, inB]; omega), rfl⟩
theorem impl_RotateXY (x y t : Int) (w : World) :
    Calls Try.prog 62 #[.int .i64 x, .int .i64 y, .int .i64 t] w fun e w' => e = .returned (.tuple #[.int .i64 (rotF x y t).1, .int .i64 (rotF x y t).2]) ∧ Below w.heap.size w w' :=
  (impl_RotateXY_same x y t w).mono fun _ _ ⟨he, hw⟩ => ⟨he, hw ▸ Below.refl _ _⟩
end Go.Proofs.Ytekppknakegadaa
