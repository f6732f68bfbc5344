/-
  Contract: the law's comparison of two poses. Written by an AI agent.
-/
import Derived.Test.YtekppknakegadaaPose5
namespace Go.Proofs.Ytekppknakegadaa
open Go.RowKit

def P3.same (p q : P3) : Bool := p.t == q.t && p.x == q.x && p.y == q.y
theorem P3.same_self (p : P3) : p.same p = true := by simp [P3.same]
theorem P3.same_iff {p q : P3} : p.same q = true ↔ p = q := by
  obtain ⟨t, x, y⟩ := p
  obtain ⟨a, b, c⟩ := q
  simp [P3.same, and_assoc]

set_option maxHeartbeats 400000 in
theorem laws_eqPose (p q : P3) (w : World) :
    Calls Try.prog 18 #[.agg #[.int .i64 p.t, .int .i64 p.x, .int .i64 p.y], .agg #[.int .i64 q.t, .int .i64 q.x, .int .i64 q.y]] w fun e w' => e = .returned (.bool (p.same q)) ∧ Below w.heap.size w w' := by
  obtain ⟨t, x, y⟩ := p
  obtain ⟨t', x', y'⟩ := q
  cases h1 : (t != t') with
  | true =>
    have HR := Lib.hid (show P3.same ⟨t, x, y⟩ ⟨t', x', y'⟩ = false by simp at h1; simp [P3.same, h1])
    go_enter Try.func18, Try.ntmps18
    go_wp2
    go_ret
    exact ⟨ret_bool HR.out.symm, (by repeat' (first | (with_reducible exact Below.refl _ _) | (with_reducible refine Below.alloc ?_ ?_ _) | (with_reducible refine Below.setCell ?_ ?_ _) | (with_reducible refine below_drewN ?_ _) | (with_reducible refine Below.drew ?_) | (with_reducible refine below_step (by assumption) ?_ ?_) | omega | (simp; done) | (simp; omega)))⟩
  | false =>
    cases h2 : (x != x') with
    | true =>
      have HR := Lib.hid (show P3.same ⟨t, x, y⟩ ⟨t', x', y'⟩ = false by simp at h2; simp [P3.same, h2])
      go_enter Try.func18, Try.ntmps18
      go_wp2
      go_ret
      exact ⟨ret_bool HR.out.symm, (by repeat' (first | (with_reducible exact Below.refl _ _) | (with_reducible refine Below.alloc ?_ ?_ _) | (with_reducible refine Below.setCell ?_ ?_ _) | (with_reducible refine below_drewN ?_ _) | (with_reducible refine Below.drew ?_) | (with_reducible refine below_step (by assumption) ?_ ?_) | omega | (simp; done) | (simp; omega)))⟩
    | false =>
      cases h3 : (y != y') with
      | true =>
        have HR := Lib.hid (show P3.same ⟨t, x, y⟩ ⟨t', x', y'⟩ = false by simp at h3; simp [P3.same, h3])
        go_enter Try.func18, Try.ntmps18
        go_wp2
        go_ret
        exact ⟨ret_bool HR.out.symm, (by repeat' (first | (with_reducible exact Below.refl _ _) | (with_reducible refine Below.alloc ?_ ?_ _) | (with_reducible refine Below.setCell ?_ ?_ _) | (with_reducible refine below_drewN ?_ _) | (with_reducible refine Below.drew ?_) | (with_reducible refine below_step (by assumption) ?_ ?_) | omega | (simp; done) | (simp; omega)))⟩
      | false =>
        have HR := Lib.hid (show P3.same ⟨t, x, y⟩ ⟨t', x', y'⟩ = true by simp at h1 h2 h3; simp [P3.same, h1, h2, h3])
        go_enter Try.func18, Try.ntmps18
        go_wp2
        go_ret
        exact ⟨ret_bool HR.out.symm, (by repeat' (first | (with_reducible exact Below.refl _ _) | (with_reducible refine Below.alloc ?_ ?_ _) | (with_reducible refine Below.setCell ?_ ?_ _) | (with_reducible refine below_drewN ?_ _) | (with_reducible refine Below.drew ?_) | (with_reducible refine below_step (by assumption) ?_ ?_) | omega | (simp; done) | (simp; omega)))⟩
end Go.Proofs.Ytekppknakegadaa
