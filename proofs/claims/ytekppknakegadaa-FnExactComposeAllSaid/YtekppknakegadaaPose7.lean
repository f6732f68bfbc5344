/-
  Contracts: Between. Written by an AI agent.
-/
import Derived.Test.YtekppknakegadaaPose6
import Derived.Deep.RegionHeld3
import Derived.Deep.DeepCutAuto
namespace Go.Proofs.Ytekppknakegadaa
open Go.RowKit


set_option maxHeartbeats 2000000 in
theorem impl_BetweenR (p q r : P3) (hr : r = comp (inv p) q) (w : World) :
    Calls Try.prog 22 #[.agg #[.int .i64 p.t, .int .i64 p.x, .int .i64 p.y], .agg #[.int .i64 q.t, .int .i64 q.x, .int .i64 q.y]] w fun e w' => e = .returned (.agg #[.int .i64 r.t, .int .i64 r.x, .int .i64 r.y]) ∧ Below w.heap.size w w' := by
  obtain ⟨t, x, y⟩ := p
  obtain ⟨t', x', y'⟩ := q
  obtain ⟨ct, cx, cy⟩ := r
  have HR := Lib.hid hr; clear hr
  obtain ⟨⟨dt, dx, dy⟩, hs⟩ : ∃ r, r = inv ⟨t, x, y⟩ := ⟨_, rfl⟩
  have HS := Lib.hid hs
  have HR2 : Hid ((⟨ct, cx, cy⟩ : P3) = comp ⟨dt, dx, dy⟩ ⟨t', x', y'⟩) := Lib.hid (by rw [hs]; exact HR.out)
  clear hs
  go_enter Try.func22, Try.ntmps22
  go_wp2_with fail
  have zz : w.heap.size < w.heap.size + 1 + 1 := by omega
  have nn := Nat.ne_of_lt zz
  have mm := (Nat.ne_of_lt zz).symm
  go_region_held3 (fun w' => w'.cell? ⟨w.heap.size, 0, none⟩ = some (.int .i64 t) ∧ w'.cell? ⟨w.heap.size, 1, none⟩ = some (.int .i64 x) ∧ w'.cell? ⟨w.heap.size, 2, none⟩ = some (.int .i64 y) ∧ w'.cell? ⟨w.heap.size + 1, 0, none⟩ = some (.int .i64 t') ∧ w'.cell? ⟨w.heap.size + 1, 1, none⟩ = some (.int .i64 x') ∧ w'.cell? ⟨w.heap.size + 1, 2, none⟩ = some (.int .i64 y')) (go_keep)
    (first
      | (go_at_call 17; refine (impl_InverseR ⟨t, x, y⟩ ⟨dt, dx, dy⟩ HS.out _).mono ?_; rintro e w1 ⟨rfl, b1⟩; obtain ⟨hc, hf⟩ := bcell b1; have q0 := fun o => hc (w.heap.size) o (by first | omega | (simp; done) | (simp; omega)); have q1 := fun o => hc (w.heap.size + 1) o (by first | omega | (simp; done) | (simp; omega)); have q2 := fun o => hc (w.heap.size + 1 + 1) o (by first | omega | (simp; done) | (simp; omega)); have hz := b1.size; (try simp at hz); have z0 : w.heap.size < w1.heap.size := (by omega); have n0 := Nat.ne_of_lt z0; have m0 := (Nat.ne_of_lt z0).symm; have z1 : w.heap.size + 1 < w1.heap.size := (by omega); have n1 := Nat.ne_of_lt z1; have m1 := (Nat.ne_of_lt z1).symm; have z2 : w.heap.size + 1 + 1 < w1.heap.size := (by omega); have n2 := Nat.ne_of_lt z2; have m2 := (Nat.ne_of_lt z2).symm; (try have hs := Nat.lt_of_succ_le hz))
      | (go_at_call 20; refine (impl_ComposeR ⟨dt, dx, dy⟩ ⟨t', x', y'⟩ ⟨ct, cx, cy⟩ HR2.out _).mono ?_; rintro e w1 ⟨rfl, b1⟩; obtain ⟨hc, hf⟩ := bcell b1; have q0 := fun o => hc (w.heap.size) o (by first | omega | (simp; done) | (simp; omega)); have q1 := fun o => hc (w.heap.size + 1) o (by first | omega | (simp; done) | (simp; omega)); have q2 := fun o => hc (w.heap.size + 1 + 1) o (by first | omega | (simp; done) | (simp; omega)); have hz := b1.size; (try simp at hz); have z0 : w.heap.size < w1.heap.size := (by omega); have n0 := Nat.ne_of_lt z0; have m0 := (Nat.ne_of_lt z0).symm; have z1 : w.heap.size + 1 < w1.heap.size := (by omega); have n1 := Nat.ne_of_lt z1; have m1 := (Nat.ne_of_lt z1).symm; have z2 : w.heap.size + 1 + 1 < w1.heap.size := (by omega); have n2 := Nat.ne_of_lt z2; have m2 := (Nat.ne_of_lt z2).symm; (try have hs := Nat.lt_of_succ_le hz)))
  all_goals
    go_wp2
    exact bodyPost_ret (v := .agg #[.int .i64 ct, .int .i64 cx, .int .i64 cy]) (by simp [results, Try.results22, go_sem, *]) rfl ⟨rfl, (by repeat' (first | (with_reducible exact Below.refl _ _) | (with_reducible refine Below.alloc ?_ ?_ _) | (with_reducible refine Below.setCell ?_ ?_ _) | (with_reducible refine below_drewN ?_ _) | (with_reducible refine Below.drew ?_) | (with_reducible refine below_step (by assumption) ?_ ?_) | omega | (simp; done) | (simp; omega)))⟩

set_option maxHeartbeats 2000000 in
theorem spec_BetweenR (p q r : P3) (hr : r = comp (inv p) q) (w : World) :
    Calls Try.prog 21 #[.agg #[.int .i64 p.t, .int .i64 p.x, .int .i64 p.y], .agg #[.int .i64 q.t, .int .i64 q.x, .int .i64 q.y]] w fun e w' => e = .returned (.agg #[.int .i64 r.t, .int .i64 r.x, .int .i64 r.y]) ∧ Below w.heap.size w w' := by
  obtain ⟨t, x, y⟩ := p
  obtain ⟨t', x', y'⟩ := q
  obtain ⟨ct, cx, cy⟩ := r
  have HR := Lib.hid hr; clear hr
  obtain ⟨⟨dt, dx, dy⟩, hs⟩ : ∃ r, r = inv ⟨t, x, y⟩ := ⟨_, rfl⟩
  have HS := Lib.hid hs
  have HR2 : Hid ((⟨ct, cx, cy⟩ : P3) = comp ⟨dt, dx, dy⟩ ⟨t', x', y'⟩) := Lib.hid (by rw [hs]; exact HR.out)
  clear hs
  go_enter Try.func21, Try.ntmps21
  go_wp2_with fail
  have zz : w.heap.size < w.heap.size + 1 + 1 := by omega
  have nn := Nat.ne_of_lt zz
  have mm := (Nat.ne_of_lt zz).symm
  go_region_held3 (fun w' => w'.cell? ⟨w.heap.size, 0, none⟩ = some (.int .i64 t) ∧ w'.cell? ⟨w.heap.size, 1, none⟩ = some (.int .i64 x) ∧ w'.cell? ⟨w.heap.size, 2, none⟩ = some (.int .i64 y) ∧ w'.cell? ⟨w.heap.size + 1, 0, none⟩ = some (.int .i64 t') ∧ w'.cell? ⟨w.heap.size + 1, 1, none⟩ = some (.int .i64 x') ∧ w'.cell? ⟨w.heap.size + 1, 2, none⟩ = some (.int .i64 y')) (go_keep)
    (first
      | (go_at_call 15; refine (spec_InverseR ⟨t, x, y⟩ ⟨dt, dx, dy⟩ HS.out _).mono ?_; rintro e w1 ⟨rfl, b1⟩; obtain ⟨hc, hf⟩ := bcell b1; have q0 := fun o => hc (w.heap.size) o (by first | omega | (simp; done) | (simp; omega)); have q1 := fun o => hc (w.heap.size + 1) o (by first | omega | (simp; done) | (simp; omega)); have q2 := fun o => hc (w.heap.size + 1 + 1) o (by first | omega | (simp; done) | (simp; omega)); have hz := b1.size; (try simp at hz); have z0 : w.heap.size < w1.heap.size := (by omega); have n0 := Nat.ne_of_lt z0; have m0 := (Nat.ne_of_lt z0).symm; have z1 : w.heap.size + 1 < w1.heap.size := (by omega); have n1 := Nat.ne_of_lt z1; have m1 := (Nat.ne_of_lt z1).symm; have z2 : w.heap.size + 1 + 1 < w1.heap.size := (by omega); have n2 := Nat.ne_of_lt z2; have m2 := (Nat.ne_of_lt z2).symm; (try have hs := Nat.lt_of_succ_le hz))
      | (go_at_call 19; refine (spec_ComposeR ⟨dt, dx, dy⟩ ⟨t', x', y'⟩ ⟨ct, cx, cy⟩ HR2.out _).mono ?_; rintro e w1 ⟨rfl, b1⟩; obtain ⟨hc, hf⟩ := bcell b1; have q0 := fun o => hc (w.heap.size) o (by first | omega | (simp; done) | (simp; omega)); have q1 := fun o => hc (w.heap.size + 1) o (by first | omega | (simp; done) | (simp; omega)); have q2 := fun o => hc (w.heap.size + 1 + 1) o (by first | omega | (simp; done) | (simp; omega)); have hz := b1.size; (try simp at hz); have z0 : w.heap.size < w1.heap.size := (by omega); have n0 := Nat.ne_of_lt z0; have m0 := (Nat.ne_of_lt z0).symm; have z1 : w.heap.size + 1 < w1.heap.size := (by omega); have n1 := Nat.ne_of_lt z1; have m1 := (Nat.ne_of_lt z1).symm; have z2 : w.heap.size + 1 + 1 < w1.heap.size := (by omega); have n2 := Nat.ne_of_lt z2; have m2 := (Nat.ne_of_lt z2).symm; (try have hs := Nat.lt_of_succ_le hz)))
  all_goals
    go_wp2
    exact bodyPost_ret (v := .agg #[.int .i64 ct, .int .i64 cx, .int .i64 cy]) (by simp [results, Try.results21, go_sem, *]) rfl ⟨rfl, (by repeat' (first | (with_reducible exact Below.refl _ _) | (with_reducible refine Below.alloc ?_ ?_ _) | (with_reducible refine Below.setCell ?_ ?_ _) | (with_reducible refine below_drewN ?_ _) | (with_reducible refine Below.drew ?_) | (with_reducible refine below_step (by assumption) ?_ ?_) | omega | (simp; done) | (simp; omega)))⟩

end Go.Proofs.Ytekppknakegadaa
