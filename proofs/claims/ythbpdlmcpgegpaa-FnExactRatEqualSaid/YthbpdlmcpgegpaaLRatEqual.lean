/-
  FnExactRatEqual, proved: for all two fractions the law returns true. No further condition. Written by an AI agent.
-/
import Derived.Test.YthbpdlmcpgegpaaRatEq
import Derived.Test.YthbpdlmcpgegpaaOpen
import Derived.Test.YthbpdlmcpgegpaaBox
import Derived.Deep.RegionHeld3
import Derived.Deep.DeepCutAuto
namespace Go.Proofs.Ythbpdlmcpgegpaa
open Go.ChangeShapes Go.WideShapes Go.ChangeAt Go.RowKit

set_option maxRecDepth 100000 in
set_option maxHeartbeats 8000000 in
theorem walk_FnExactRatEqual (w : World) (s0 : Bool) (v0 : Value) (xs : List Int) (u0 : Value) (ys : List Int) (h0 : Sl w v0 xs) (_f0 : Wf xs) (i0 : Sl w u0 ys) (_g0 : Wf ys) (s1 : Bool) (v1 : Value) (us : List Int) (u1 : Value) (vs : List Int) (h1 : Sl w v1 us) (_f1 : Wf us) (i1 : Sl w u1 vs) (_g1 : Wf vs) :
    Calls Try.prog 5 #[.agg #[.bool s0, v0, u0], .agg #[.bool s1, v1, u1]] w fun e w' => e = .returned (.bool true) ∧ Below w.heap.size w w' := by
  have S0 := Lib.hid h0
  clear _f0
  obtain ⟨A0, c0, rfl, p1, p2, p3⟩ := h0
  have hm0 : xs.length ≤ 9223372036854775807 := by unfold maxLen at p2; omega
  clear p1 p2 p3
  have R0 := Lib.hid i0
  clear _g0
  obtain ⟨B0, d0, rfl, p1, p2, p3⟩ := i0
  have hn0 : ys.length ≤ 9223372036854775807 := by unfold maxLen at p2; omega
  clear p1 p2 p3
  have S1 := Lib.hid h1
  clear _f1
  obtain ⟨A1, c1, rfl, p1, p2, p3⟩ := h1
  have hm1 : us.length ≤ 9223372036854775807 := by unfold maxLen at p2; omega
  clear p1 p2 p3
  have R1 := Lib.hid i1
  clear _g1
  obtain ⟨B1, d1, rfl, p1, p2, p3⟩ := i1
  have hn1 : vs.length ≤ 9223372036854775807 := by unfold maxLen at p2; omega
  clear p1 p2 p3
  obtain ⟨rs0, hr⟩ : ∃ x, x = ratEqF s0 s1 xs ys us vs := ⟨_, rfl⟩
  have hne0 : (rs0 != rs0) = false := by simp
  have X0 := Lib.hid hr
  clear hr
  go_enter Try.func5, Try.ntmps5
  go_wp2_with fail
  (with_reducible refine (laws_szRatR s0 A0 xs.length c0 B0 ys.length d0 (1048576) _ hm0 hn0 (by omega) (by omega)).mono ?_)
  rintro e w1 ⟨t1, rfl, ht1, b1⟩
  rcases ht1 with rfl | ⟨ha1, hb1⟩
  · go_wp2
    go_ret
    exact ⟨rfl, (by repeat' (first | (with_reducible exact Below.refl _ _) | (with_reducible refine Below.alloc ?_ ?_ _) | (with_reducible refine Below.setCell ?_ ?_ _) | (with_reducible refine below_drewN ?_ _) | (with_reducible refine Below.drew ?_) | (with_reducible refine below_step (by assumption) ?_ ?_) | omega | (simp; done) | (simp; omega)))⟩
  have z1 := b1.size
  (try simp at z1)
  have y1_0 : w.heap.size < w1.heap.size := by omega
  have y1_1 : w.heap.size + 1 < w1.heap.size := by omega
  have k1_0_0 : w1.cell? ⟨w.heap.size, 0, none⟩ = some (.bool s0) := by rw [(bxcell b1).1 _ _ (by first | omega | (simp; done) | (simp; omega))]; simp [go_sem, *]
  have k1_0_1 : w1.cell? ⟨w.heap.size, 1, none⟩ = some (.slice A0 xs.length c0) := by rw [(bxcell b1).1 _ _ (by first | omega | (simp; done) | (simp; omega))]; simp [go_sem, *]
  have k1_0_2 : w1.cell? ⟨w.heap.size, 2, none⟩ = some (.slice B0 ys.length d0) := by rw [(bxcell b1).1 _ _ (by first | omega | (simp; done) | (simp; omega))]; simp [go_sem, *]
  have k1_1_0 : w1.cell? ⟨w.heap.size + 1, 0, none⟩ = some (.bool s1) := by rw [(bxcell b1).1 _ _ (by first | omega | (simp; done) | (simp; omega))]; simp [go_sem, *]
  have k1_1_1 : w1.cell? ⟨w.heap.size + 1, 1, none⟩ = some (.slice A1 us.length c1) := by rw [(bxcell b1).1 _ _ (by first | omega | (simp; done) | (simp; omega))]; simp [go_sem, *]
  have k1_1_2 : w1.cell? ⟨w.heap.size + 1, 2, none⟩ = some (.slice B1 vs.length d1) := by rw [(bxcell b1).1 _ _ (by first | omega | (simp; done) | (simp; omega))]; simp [go_sem, *]
  go_wp2_with fail
  (with_reducible refine (laws_szRatR s1 A1 us.length c1 B1 vs.length d1 (t1) _ hm1 hn1 (by omega) (by omega)).mono ?_)
  rintro e w2 ⟨t2, rfl, ht2, b2⟩
  rcases ht2 with rfl | ⟨ha2, hb2⟩
  · go_wp2
    go_ret
    exact ⟨rfl, (by repeat' (first | (with_reducible exact Below.refl _ _) | (with_reducible refine Below.alloc ?_ ?_ _) | (with_reducible refine Below.setCell ?_ ?_ _) | (with_reducible refine below_drewN ?_ _) | (with_reducible refine Below.drew ?_) | (with_reducible refine below_step (by assumption) ?_ ?_) | omega | (simp; done) | (simp; omega)))⟩
  have z2 := b2.size
  (try simp at z2)
  have y2_0 : w.heap.size < w2.heap.size := by omega
  have y2_1 : w.heap.size + 1 < w2.heap.size := by omega
  have k2_0_0 : w2.cell? ⟨w.heap.size, 0, none⟩ = some (.bool s0) := by rw [(bxcell b2).1 _ _ (by first | omega | (simp; done) | (simp; omega))]; simp [go_sem, *]
  have k2_0_1 : w2.cell? ⟨w.heap.size, 1, none⟩ = some (.slice A0 xs.length c0) := by rw [(bxcell b2).1 _ _ (by first | omega | (simp; done) | (simp; omega))]; simp [go_sem, *]
  have k2_0_2 : w2.cell? ⟨w.heap.size, 2, none⟩ = some (.slice B0 ys.length d0) := by rw [(bxcell b2).1 _ _ (by first | omega | (simp; done) | (simp; omega))]; simp [go_sem, *]
  have k2_1_0 : w2.cell? ⟨w.heap.size + 1, 0, none⟩ = some (.bool s1) := by rw [(bxcell b2).1 _ _ (by first | omega | (simp; done) | (simp; omega))]; simp [go_sem, *]
  have k2_1_1 : w2.cell? ⟨w.heap.size + 1, 1, none⟩ = some (.slice A1 us.length c1) := by rw [(bxcell b2).1 _ _ (by first | omega | (simp; done) | (simp; omega))]; simp [go_sem, *]
  have k2_1_2 : w2.cell? ⟨w.heap.size + 1, 2, none⟩ = some (.slice B1 vs.length d1) := by rw [(bxcell b2).1 _ _ (by first | omega | (simp; done) | (simp; omega))]; simp [go_sem, *]
  clear k1_0_0 k1_0_1 k1_0_2 k1_1_0 k1_1_1 k1_1_2 y1_0 y1_1
  go_wp2_with fail
  go_region_held3 (fun w' => w'.cell? ⟨w.heap.size, 0, none⟩ = some (.bool s0) ∧ w'.cell? ⟨w.heap.size, 1, none⟩ = some (.slice A0 xs.length c0) ∧ w'.cell? ⟨w.heap.size, 2, none⟩ = some (.slice B0 ys.length d0) ∧ w'.cell? ⟨w.heap.size + 1, 0, none⟩ = some (.bool s1) ∧ w'.cell? ⟨w.heap.size + 1, 1, none⟩ = some (.slice A1 us.length c1) ∧ w'.cell? ⟨w.heap.size + 1, 2, none⟩ = some (.slice B1 vs.length d1)) (go_keep)
    (first
      | (go_at_call 31; (with_reducible refine (laws_toRat s0 A0 B0 _ c0 _ d0 xs ys _ (S0.out.below (by repeat' (first | (with_reducible exact Below.refl _ _) | (with_reducible refine Below.alloc ?_ ?_ _) | (with_reducible refine Below.setCell ?_ ?_ _) | (with_reducible refine below_drewN ?_ _) | (with_reducible refine Below.drew ?_) | (with_reducible refine below_step (by assumption) ?_ ?_) | omega | (simp; done) | (simp; omega)))) (R0.out.below (by repeat' (first | (with_reducible exact Below.refl _ _) | (with_reducible refine Below.alloc ?_ ?_ _) | (with_reducible refine Below.setCell ?_ ?_ _) | (with_reducible refine below_drewN ?_ _) | (with_reducible refine Below.drew ?_) | (with_reducible refine below_step (by assumption) ?_ ?_) | omega | (simp; done) | (simp; omega)))) (by omega) (by omega)).mono ?_); rintro e w3 ⟨A3, n3, c3, B3, m3, d3, rfl, o3, b3⟩; obtain ⟨hc3, hf3⟩ := bxcell b3; have q3_0 := fun o => hc3 (w.heap.size) o (by first | omega | (simp; done) | (simp; omega)); have q3_1 := fun o => hc3 (w.heap.size + 1) o (by first | omega | (simp; done) | (simp; omega)); have z3 := b3.size; (try simp at z3); have ya3_0 : w.heap.size < w3.heap.size := (by omega); have yb3_0 := Nat.ne_of_lt ya3_0; have yc3_0 := (Nat.ne_of_lt ya3_0).symm; have ya3_1 : w.heap.size + 1 < w3.heap.size := (by omega); have yb3_1 := Nat.ne_of_lt ya3_1; have yc3_1 := (Nat.ne_of_lt ya3_1).symm; have O3 := PairR.wide o3 (lo' := w2.heap.size) (by first | omega | (simp; done) | (simp; omega)) (Nat.le_refl _); clear o3)
      | (go_at_call 31; (with_reducible refine (laws_toRat s1 A1 B1 _ c1 _ d1 us vs _ (S1.out.below (by repeat' (first | (with_reducible exact Below.refl _ _) | (with_reducible refine Below.alloc ?_ ?_ _) | (with_reducible refine Below.setCell ?_ ?_ _) | (with_reducible refine below_drewN ?_ _) | (with_reducible refine Below.drew ?_) | (with_reducible refine below_step (by assumption) ?_ ?_) | omega | (simp; done) | (simp; omega)))) (R1.out.below (by repeat' (first | (with_reducible exact Below.refl _ _) | (with_reducible refine Below.alloc ?_ ?_ _) | (with_reducible refine Below.setCell ?_ ?_ _) | (with_reducible refine below_drewN ?_ _) | (with_reducible refine Below.drew ?_) | (with_reducible refine below_step (by assumption) ?_ ?_) | omega | (simp; done) | (simp; omega)))) (by omega) (by omega)).mono ?_); rintro e w4 ⟨A4, n4, c4, B4, m4, d4, rfl, o4, b4⟩; obtain ⟨hc4, hf4⟩ := bxcell b4; have q4_0 := fun o => hc4 (w.heap.size) o (by first | omega | (simp; done) | (simp; omega)); have q4_1 := fun o => hc4 (w.heap.size + 1) o (by first | omega | (simp; done) | (simp; omega)); have z4 := b4.size; (try simp at z4); have ya4_0 : w.heap.size < w4.heap.size := (by omega); have yb4_0 := Nat.ne_of_lt ya4_0; have yc4_0 := (Nat.ne_of_lt ya4_0).symm; have ya4_1 : w.heap.size + 1 < w4.heap.size := (by omega); have yb4_1 := Nat.ne_of_lt ya4_1; have yc4_1 := (Nat.ne_of_lt ya4_1).symm; have O4 := PairR.wide o4 (lo' := w3.heap.size) (by first | omega | (simp; done) | (simp; omega)) (Nat.le_refl _); clear o4)
      | (go_at_call 30; (with_reducible refine (spec_RatEqual s0 s1 _ _ _ _ _ _ _ _ _ _ _ _ xs ys us vs _ (PairR.here O3 (by repeat' (first | (with_reducible exact Below.refl _ _) | (with_reducible refine Below.alloc ?_ ?_ _) | (with_reducible refine Below.setCell ?_ ?_ _) | (with_reducible refine below_drewN ?_ _) | (with_reducible refine Below.drew ?_) | (with_reducible refine below_step (by assumption) ?_ ?_) | omega | (simp; done) | (simp; omega)))).sl1 (PairR.here O3 (by repeat' (first | (with_reducible exact Below.refl _ _) | (with_reducible refine Below.alloc ?_ ?_ _) | (with_reducible refine Below.setCell ?_ ?_ _) | (with_reducible refine below_drewN ?_ _) | (with_reducible refine Below.drew ?_) | (with_reducible refine below_step (by assumption) ?_ ?_) | omega | (simp; done) | (simp; omega)))).sl2 (PairR.here O4 (by repeat' (first | (with_reducible exact Below.refl _ _) | (with_reducible refine Below.alloc ?_ ?_ _) | (with_reducible refine Below.setCell ?_ ?_ _) | (with_reducible refine below_drewN ?_ _) | (with_reducible refine Below.drew ?_) | (with_reducible refine below_step (by assumption) ?_ ?_) | omega | (simp; done) | (simp; omega)))).sl1 (PairR.here O4 (by repeat' (first | (with_reducible exact Below.refl _ _) | (with_reducible refine Below.alloc ?_ ?_ _) | (with_reducible refine Below.setCell ?_ ?_ _) | (with_reducible refine below_drewN ?_ _) | (with_reducible refine Below.drew ?_) | (with_reducible refine below_step (by assumption) ?_ ?_) | omega | (simp; done) | (simp; omega)))).sl2).mono ?_); rintro e w5 ⟨rfl, b5⟩; obtain ⟨hc5, hf5⟩ := bxcell b5; have q5_0 := fun o => hc5 (w.heap.size) o (by first | omega | (simp; done) | (simp; omega)); have q5_1 := fun o => hc5 (w.heap.size + 1) o (by first | omega | (simp; done) | (simp; omega)); have z5 := b5.size; (try simp at z5); have ya5_0 : w.heap.size < w5.heap.size := (by omega); have yb5_0 := Nat.ne_of_lt ya5_0; have yc5_0 := (Nat.ne_of_lt ya5_0).symm; have ya5_1 : w.heap.size + 1 < w5.heap.size := (by omega); have yb5_1 := Nat.ne_of_lt ya5_1; have yc5_1 := (Nat.ne_of_lt ya5_1).symm; rw [← X0.out]))
  have z5 := b5.size
  (try simp at z5)
  have y5_0 : w.heap.size < w5.heap.size := by omega
  have y5_1 : w.heap.size + 1 < w5.heap.size := by omega
  have k5_0_0 : w5.cell? ⟨w.heap.size, 0, none⟩ = some (.bool s0) := by rw [(bxcell b5).1 _ _ (by first | omega | (simp; done) | (simp; omega))]; simp [go_sem, *]
  have k5_0_1 : w5.cell? ⟨w.heap.size, 1, none⟩ = some (.slice A0 xs.length c0) := by rw [(bxcell b5).1 _ _ (by first | omega | (simp; done) | (simp; omega))]; simp [go_sem, *]
  have k5_0_2 : w5.cell? ⟨w.heap.size, 2, none⟩ = some (.slice B0 ys.length d0) := by rw [(bxcell b5).1 _ _ (by first | omega | (simp; done) | (simp; omega))]; simp [go_sem, *]
  have k5_1_0 : w5.cell? ⟨w.heap.size + 1, 0, none⟩ = some (.bool s1) := by rw [(bxcell b5).1 _ _ (by first | omega | (simp; done) | (simp; omega))]; simp [go_sem, *]
  have k5_1_1 : w5.cell? ⟨w.heap.size + 1, 1, none⟩ = some (.slice A1 us.length c1) := by rw [(bxcell b5).1 _ _ (by first | omega | (simp; done) | (simp; omega))]; simp [go_sem, *]
  have k5_1_2 : w5.cell? ⟨w.heap.size + 1, 2, none⟩ = some (.slice B1 vs.length d1) := by rw [(bxcell b5).1 _ _ (by first | omega | (simp; done) | (simp; omega))]; simp [go_sem, *]
  clear k2_0_0 k2_0_1 k2_0_2 k2_1_0 k2_1_1 k2_1_2 y2_0 y2_1 hc3 hf3 q3_0 q3_1 yb3_0 yc3_0 yb3_1 yc3_1 hc4 hf4 q4_0 q4_1 yb4_0 yc4_0 yb4_1 yc4_1 hc5 hf5 q5_0 q5_1 yb5_0 yc5_0 yb5_1 yc5_1
  go_wp2_with fail
  (with_reducible refine (laws_toRat s0 A0 B0 _ c0 _ d0 xs ys _ (S0.out.below (by repeat' (first | (with_reducible exact Below.refl _ _) | (with_reducible refine Below.alloc ?_ ?_ _) | (with_reducible refine Below.setCell ?_ ?_ _) | (with_reducible refine below_drewN ?_ _) | (with_reducible refine Below.drew ?_) | (with_reducible refine below_step (by assumption) ?_ ?_) | omega | (simp; done) | (simp; omega)))) (R0.out.below (by repeat' (first | (with_reducible exact Below.refl _ _) | (with_reducible refine Below.alloc ?_ ?_ _) | (with_reducible refine Below.setCell ?_ ?_ _) | (with_reducible refine below_drewN ?_ _) | (with_reducible refine Below.drew ?_) | (with_reducible refine below_step (by assumption) ?_ ?_) | omega | (simp; done) | (simp; omega)))) (by omega) (by omega)).mono ?_)
  rintro e w6 ⟨A6, n6, c6, B6, m6, d6, rfl, o6, b6⟩
  have O6 := PairR.wide o6 (lo' := w5.heap.size) (by first | omega | (simp; done) | (simp; omega)) (Nat.le_refl _)
  clear o6
  have z6 := b6.size
  (try simp at z6)
  have y6_0 : w.heap.size < w6.heap.size := by omega
  have y6_1 : w.heap.size + 1 < w6.heap.size := by omega
  have k6_0_0 : w6.cell? ⟨w.heap.size, 0, none⟩ = some (.bool s0) := by rw [(bxcell b6).1 _ _ (by first | omega | (simp; done) | (simp; omega))]; simp [go_sem, *]
  have k6_0_1 : w6.cell? ⟨w.heap.size, 1, none⟩ = some (.slice A0 xs.length c0) := by rw [(bxcell b6).1 _ _ (by first | omega | (simp; done) | (simp; omega))]; simp [go_sem, *]
  have k6_0_2 : w6.cell? ⟨w.heap.size, 2, none⟩ = some (.slice B0 ys.length d0) := by rw [(bxcell b6).1 _ _ (by first | omega | (simp; done) | (simp; omega))]; simp [go_sem, *]
  have k6_1_0 : w6.cell? ⟨w.heap.size + 1, 0, none⟩ = some (.bool s1) := by rw [(bxcell b6).1 _ _ (by first | omega | (simp; done) | (simp; omega))]; simp [go_sem, *]
  have k6_1_1 : w6.cell? ⟨w.heap.size + 1, 1, none⟩ = some (.slice A1 us.length c1) := by rw [(bxcell b6).1 _ _ (by first | omega | (simp; done) | (simp; omega))]; simp [go_sem, *]
  have k6_1_2 : w6.cell? ⟨w.heap.size + 1, 2, none⟩ = some (.slice B1 vs.length d1) := by rw [(bxcell b6).1 _ _ (by first | omega | (simp; done) | (simp; omega))]; simp [go_sem, *]
  clear k5_0_0 k5_0_1 k5_0_2 k5_1_0 k5_1_1 k5_1_2 y5_0 y5_1
  go_wp2_with fail
  (with_reducible refine (laws_toRat s1 A1 B1 _ c1 _ d1 us vs _ (S1.out.below (by repeat' (first | (with_reducible exact Below.refl _ _) | (with_reducible refine Below.alloc ?_ ?_ _) | (with_reducible refine Below.setCell ?_ ?_ _) | (with_reducible refine below_drewN ?_ _) | (with_reducible refine Below.drew ?_) | (with_reducible refine below_step (by assumption) ?_ ?_) | omega | (simp; done) | (simp; omega)))) (R1.out.below (by repeat' (first | (with_reducible exact Below.refl _ _) | (with_reducible refine Below.alloc ?_ ?_ _) | (with_reducible refine Below.setCell ?_ ?_ _) | (with_reducible refine below_drewN ?_ _) | (with_reducible refine Below.drew ?_) | (with_reducible refine below_step (by assumption) ?_ ?_) | omega | (simp; done) | (simp; omega)))) (by omega) (by omega)).mono ?_)
  rintro e w7 ⟨A7, n7, c7, B7, m7, d7, rfl, o7, b7⟩
  have O7 := PairR.wide o7 (lo' := w6.heap.size + 1) (by first | omega | (simp; done) | (simp; omega)) (Nat.le_refl _)
  clear o7
  have z7 := b7.size
  (try simp at z7)
  have y7_0 : w.heap.size < w7.heap.size := by omega
  have y7_1 : w.heap.size + 1 < w7.heap.size := by omega
  have y7_2 : w6.heap.size < w7.heap.size := by omega
  have k7_0_0 : w7.cell? ⟨w.heap.size, 0, none⟩ = some (.bool s0) := by rw [(bxcell b7).1 _ _ (by first | omega | (simp; done) | (simp; omega))]; simp [go_sem, *]
  have k7_0_1 : w7.cell? ⟨w.heap.size, 1, none⟩ = some (.slice A0 xs.length c0) := by rw [(bxcell b7).1 _ _ (by first | omega | (simp; done) | (simp; omega))]; simp [go_sem, *]
  have k7_0_2 : w7.cell? ⟨w.heap.size, 2, none⟩ = some (.slice B0 ys.length d0) := by rw [(bxcell b7).1 _ _ (by first | omega | (simp; done) | (simp; omega))]; simp [go_sem, *]
  have k7_1_0 : w7.cell? ⟨w.heap.size + 1, 0, none⟩ = some (.bool s1) := by rw [(bxcell b7).1 _ _ (by first | omega | (simp; done) | (simp; omega))]; simp [go_sem, *]
  have k7_1_1 : w7.cell? ⟨w.heap.size + 1, 1, none⟩ = some (.slice A1 us.length c1) := by rw [(bxcell b7).1 _ _ (by first | omega | (simp; done) | (simp; omega))]; simp [go_sem, *]
  have k7_1_2 : w7.cell? ⟨w.heap.size + 1, 2, none⟩ = some (.slice B1 vs.length d1) := by rw [(bxcell b7).1 _ _ (by first | omega | (simp; done) | (simp; omega))]; simp [go_sem, *]
  have k7_2_0 : w7.cell? ⟨w6.heap.size, 0, none⟩ = some (.bool s0) := by rw [(bxcell b7).1 _ _ (by first | omega | (simp; done) | (simp; omega))]; simp [go_sem, *]
  have k7_2_1 : w7.cell? ⟨w6.heap.size, 1, none⟩ = some (.slice A6 n6 c6) := by rw [(bxcell b7).1 _ _ (by first | omega | (simp; done) | (simp; omega))]; simp [go_sem, *]
  have k7_2_2 : w7.cell? ⟨w6.heap.size, 2, none⟩ = some (.slice B6 m6 d6) := by rw [(bxcell b7).1 _ _ (by first | omega | (simp; done) | (simp; omega))]; simp [go_sem, *]
  clear k6_0_0 k6_0_1 k6_0_2 k6_1_0 k6_1_1 k6_1_2 y6_0 y6_1
  go_wp2_with fail
  (with_reducible refine (impl_RatEqual s0 s1 _ _ _ _ _ _ _ _ _ _ _ _ xs ys us vs _ (PairR.here O6 (by repeat' (first | (with_reducible exact Below.refl _ _) | (with_reducible refine Below.alloc ?_ ?_ _) | (with_reducible refine Below.setCell ?_ ?_ _) | (with_reducible refine below_drewN ?_ _) | (with_reducible refine Below.drew ?_) | (with_reducible refine below_step (by assumption) ?_ ?_) | omega | (simp; done) | (simp; omega)))).sl1 (PairR.here O6 (by repeat' (first | (with_reducible exact Below.refl _ _) | (with_reducible refine Below.alloc ?_ ?_ _) | (with_reducible refine Below.setCell ?_ ?_ _) | (with_reducible refine below_drewN ?_ _) | (with_reducible refine Below.drew ?_) | (with_reducible refine below_step (by assumption) ?_ ?_) | omega | (simp; done) | (simp; omega)))).sl2 (PairR.here O7 (by repeat' (first | (with_reducible exact Below.refl _ _) | (with_reducible refine Below.alloc ?_ ?_ _) | (with_reducible refine Below.setCell ?_ ?_ _) | (with_reducible refine below_drewN ?_ _) | (with_reducible refine Below.drew ?_) | (with_reducible refine below_step (by assumption) ?_ ?_) | omega | (simp; done) | (simp; omega)))).sl1 (PairR.here O7 (by repeat' (first | (with_reducible exact Below.refl _ _) | (with_reducible refine Below.alloc ?_ ?_ _) | (with_reducible refine Below.setCell ?_ ?_ _) | (with_reducible refine below_drewN ?_ _) | (with_reducible refine Below.drew ?_) | (with_reducible refine below_step (by assumption) ?_ ?_) | omega | (simp; done) | (simp; omega)))).sl2).mono ?_)
  rintro e w8 ⟨rfl, b8⟩
  rw [← X0.out]
  have z8 := b8.size
  (try simp at z8)
  have y8_0 : w.heap.size < w8.heap.size := by omega
  have y8_1 : w.heap.size + 1 < w8.heap.size := by omega
  have y8_2 : w6.heap.size < w8.heap.size := by omega
  have y8_3 : w7.heap.size < w8.heap.size := by omega
  have k8_0_0 : w8.cell? ⟨w.heap.size, 0, none⟩ = some (.bool s0) := by rw [(bxcell b8).1 _ _ (by first | omega | (simp; done) | (simp; omega))]; simp [go_sem, *]
  have k8_0_1 : w8.cell? ⟨w.heap.size, 1, none⟩ = some (.slice A0 xs.length c0) := by rw [(bxcell b8).1 _ _ (by first | omega | (simp; done) | (simp; omega))]; simp [go_sem, *]
  have k8_0_2 : w8.cell? ⟨w.heap.size, 2, none⟩ = some (.slice B0 ys.length d0) := by rw [(bxcell b8).1 _ _ (by first | omega | (simp; done) | (simp; omega))]; simp [go_sem, *]
  have k8_1_0 : w8.cell? ⟨w.heap.size + 1, 0, none⟩ = some (.bool s1) := by rw [(bxcell b8).1 _ _ (by first | omega | (simp; done) | (simp; omega))]; simp [go_sem, *]
  have k8_1_1 : w8.cell? ⟨w.heap.size + 1, 1, none⟩ = some (.slice A1 us.length c1) := by rw [(bxcell b8).1 _ _ (by first | omega | (simp; done) | (simp; omega))]; simp [go_sem, *]
  have k8_1_2 : w8.cell? ⟨w.heap.size + 1, 2, none⟩ = some (.slice B1 vs.length d1) := by rw [(bxcell b8).1 _ _ (by first | omega | (simp; done) | (simp; omega))]; simp [go_sem, *]
  have k8_2_0 : w8.cell? ⟨w6.heap.size, 0, none⟩ = some (.bool s0) := by rw [(bxcell b8).1 _ _ (by first | omega | (simp; done) | (simp; omega))]; simp [go_sem, *]
  have k8_2_1 : w8.cell? ⟨w6.heap.size, 1, none⟩ = some (.slice A6 n6 c6) := by rw [(bxcell b8).1 _ _ (by first | omega | (simp; done) | (simp; omega))]; simp [go_sem, *]
  have k8_2_2 : w8.cell? ⟨w6.heap.size, 2, none⟩ = some (.slice B6 m6 d6) := by rw [(bxcell b8).1 _ _ (by first | omega | (simp; done) | (simp; omega))]; simp [go_sem, *]
  have k8_3_0 : w8.cell? ⟨w7.heap.size, 0, none⟩ = some (.bool s1) := by rw [(bxcell b8).1 _ _ (by first | omega | (simp; done) | (simp; omega))]; simp [go_sem, *]
  have k8_3_1 : w8.cell? ⟨w7.heap.size, 1, none⟩ = some (.slice A7 n7 c7) := by rw [(bxcell b8).1 _ _ (by first | omega | (simp; done) | (simp; omega))]; simp [go_sem, *]
  have k8_3_2 : w8.cell? ⟨w7.heap.size, 2, none⟩ = some (.slice B7 m7 d7) := by rw [(bxcell b8).1 _ _ (by first | omega | (simp; done) | (simp; omega))]; simp [go_sem, *]
  clear k7_0_0 k7_0_1 k7_0_2 k7_1_0 k7_1_1 k7_1_2 k7_2_0 k7_2_1 k7_2_2 y7_0 y7_1 y7_2
  go_wp2_with fail
  go_region_held3 (fun w' => w'.cell? ⟨w6.heap.size, 0, none⟩ = some (.bool s0) ∧ w'.cell? ⟨w6.heap.size, 1, none⟩ = some (.slice A6 n6 c6) ∧ w'.cell? ⟨w6.heap.size, 2, none⟩ = some (.slice B6 m6 d6) ∧ w'.cell? ⟨w.heap.size, 0, none⟩ = some (.bool s0) ∧ w'.cell? ⟨w.heap.size, 1, none⟩ = some (.slice A0 xs.length c0) ∧ w'.cell? ⟨w.heap.size, 2, none⟩ = some (.slice B0 ys.length d0)) (go_keep)
    (first
      | (go_at_call 31; (with_reducible refine (laws_toRat s0 A0 B0 _ c0 _ d0 xs ys _ (S0.out.below (by repeat' (first | (with_reducible exact Below.refl _ _) | (with_reducible refine Below.alloc ?_ ?_ _) | (with_reducible refine Below.setCell ?_ ?_ _) | (with_reducible refine below_drewN ?_ _) | (with_reducible refine Below.drew ?_) | (with_reducible refine below_step (by assumption) ?_ ?_) | omega | (simp; done) | (simp; omega)))) (R0.out.below (by repeat' (first | (with_reducible exact Below.refl _ _) | (with_reducible refine Below.alloc ?_ ?_ _) | (with_reducible refine Below.setCell ?_ ?_ _) | (with_reducible refine below_drewN ?_ _) | (with_reducible refine Below.drew ?_) | (with_reducible refine below_step (by assumption) ?_ ?_) | omega | (simp; done) | (simp; omega)))) (by omega) (by omega)).mono ?_); rintro e w9 ⟨A9, n9, c9, B9, m9, d9, rfl, o9, b9⟩; obtain ⟨hc9, hf9⟩ := bxcell b9; have q9_0 := fun o => hc9 (w.heap.size) o (by first | omega | (simp; done) | (simp; omega)); have q9_1 := fun o => hc9 (w.heap.size + 1) o (by first | omega | (simp; done) | (simp; omega)); have q9_2 := fun o => hc9 (w6.heap.size) o (by first | omega | (simp; done) | (simp; omega)); have q9_3 := fun o => hc9 (w7.heap.size) o (by first | omega | (simp; done) | (simp; omega)); have z9 := b9.size; (try simp at z9); have ya9_0 : w.heap.size < w9.heap.size := (by omega); have yb9_0 := Nat.ne_of_lt ya9_0; have yc9_0 := (Nat.ne_of_lt ya9_0).symm; have ya9_1 : w.heap.size + 1 < w9.heap.size := (by omega); have yb9_1 := Nat.ne_of_lt ya9_1; have yc9_1 := (Nat.ne_of_lt ya9_1).symm; have ya9_2 : w6.heap.size < w9.heap.size := (by omega); have yb9_2 := Nat.ne_of_lt ya9_2; have yc9_2 := (Nat.ne_of_lt ya9_2).symm; have ya9_3 : w7.heap.size < w9.heap.size := (by omega); have yb9_3 := Nat.ne_of_lt ya9_3; have yc9_3 := (Nat.ne_of_lt ya9_3).symm; have O9 := PairR.wide o9 (lo' := w8.heap.size) (by first | omega | (simp; done) | (simp; omega)) (Nat.le_refl _); clear o9)
      | (go_at_call 15; (with_reducible refine (eqRat s0 _ _ _ _ _ _ _ _ _ _ _ _ xs ys _ (PairR.here O6 (by repeat' (first | (with_reducible exact Below.refl _ _) | (with_reducible refine Below.alloc ?_ ?_ _) | (with_reducible refine Below.setCell ?_ ?_ _) | (with_reducible refine below_drewN ?_ _) | (with_reducible refine Below.drew ?_) | (with_reducible refine below_step (by assumption) ?_ ?_) | omega | (simp; done) | (simp; omega)))).sl1 (PairR.here O6 (by repeat' (first | (with_reducible exact Below.refl _ _) | (with_reducible refine Below.alloc ?_ ?_ _) | (with_reducible refine Below.setCell ?_ ?_ _) | (with_reducible refine below_drewN ?_ _) | (with_reducible refine Below.drew ?_) | (with_reducible refine below_step (by assumption) ?_ ?_) | omega | (simp; done) | (simp; omega)))).sl2 (PairR.here O9 (by repeat' (first | (with_reducible exact Below.refl _ _) | (with_reducible refine Below.alloc ?_ ?_ _) | (with_reducible refine Below.setCell ?_ ?_ _) | (with_reducible refine below_drewN ?_ _) | (with_reducible refine Below.drew ?_) | (with_reducible refine below_step (by assumption) ?_ ?_) | omega | (simp; done) | (simp; omega)))).sl1 (PairR.here O9 (by repeat' (first | (with_reducible exact Below.refl _ _) | (with_reducible refine Below.alloc ?_ ?_ _) | (with_reducible refine Below.setCell ?_ ?_ _) | (with_reducible refine below_drewN ?_ _) | (with_reducible refine Below.drew ?_) | (with_reducible refine below_step (by assumption) ?_ ?_) | omega | (simp; done) | (simp; omega)))).sl2).mono ?_); rintro e w10 ⟨rfl, b10⟩; obtain ⟨hc10, hf10⟩ := bxcell b10; have q10_0 := fun o => hc10 (w.heap.size) o (by first | omega | (simp; done) | (simp; omega)); have q10_1 := fun o => hc10 (w.heap.size + 1) o (by first | omega | (simp; done) | (simp; omega)); have q10_2 := fun o => hc10 (w6.heap.size) o (by first | omega | (simp; done) | (simp; omega)); have q10_3 := fun o => hc10 (w7.heap.size) o (by first | omega | (simp; done) | (simp; omega)); have z10 := b10.size; (try simp at z10); have ya10_0 : w.heap.size < w10.heap.size := (by omega); have yb10_0 := Nat.ne_of_lt ya10_0; have yc10_0 := (Nat.ne_of_lt ya10_0).symm; have ya10_1 : w.heap.size + 1 < w10.heap.size := (by omega); have yb10_1 := Nat.ne_of_lt ya10_1; have yc10_1 := (Nat.ne_of_lt ya10_1).symm; have ya10_2 : w6.heap.size < w10.heap.size := (by omega); have yb10_2 := Nat.ne_of_lt ya10_2; have yc10_2 := (Nat.ne_of_lt ya10_2).symm; have ya10_3 : w7.heap.size < w10.heap.size := (by omega); have yb10_3 := Nat.ne_of_lt ya10_3; have yc10_3 := (Nat.ne_of_lt ya10_3).symm))
  have z10 := b10.size
  (try simp at z10)
  have y10_0 : w.heap.size < w10.heap.size := by omega
  have y10_1 : w.heap.size + 1 < w10.heap.size := by omega
  have y10_2 : w6.heap.size < w10.heap.size := by omega
  have y10_3 : w7.heap.size < w10.heap.size := by omega
  have k10_0_0 : w10.cell? ⟨w.heap.size, 0, none⟩ = some (.bool s0) := by rw [(bxcell b10).1 _ _ (by first | omega | (simp; done) | (simp; omega))]; simp [go_sem, *]
  have k10_0_1 : w10.cell? ⟨w.heap.size, 1, none⟩ = some (.slice A0 xs.length c0) := by rw [(bxcell b10).1 _ _ (by first | omega | (simp; done) | (simp; omega))]; simp [go_sem, *]
  have k10_0_2 : w10.cell? ⟨w.heap.size, 2, none⟩ = some (.slice B0 ys.length d0) := by rw [(bxcell b10).1 _ _ (by first | omega | (simp; done) | (simp; omega))]; simp [go_sem, *]
  have k10_1_0 : w10.cell? ⟨w.heap.size + 1, 0, none⟩ = some (.bool s1) := by rw [(bxcell b10).1 _ _ (by first | omega | (simp; done) | (simp; omega))]; simp [go_sem, *]
  have k10_1_1 : w10.cell? ⟨w.heap.size + 1, 1, none⟩ = some (.slice A1 us.length c1) := by rw [(bxcell b10).1 _ _ (by first | omega | (simp; done) | (simp; omega))]; simp [go_sem, *]
  have k10_1_2 : w10.cell? ⟨w.heap.size + 1, 2, none⟩ = some (.slice B1 vs.length d1) := by rw [(bxcell b10).1 _ _ (by first | omega | (simp; done) | (simp; omega))]; simp [go_sem, *]
  have k10_2_0 : w10.cell? ⟨w6.heap.size, 0, none⟩ = some (.bool s0) := by rw [(bxcell b10).1 _ _ (by first | omega | (simp; done) | (simp; omega))]; simp [go_sem, *]
  have k10_2_1 : w10.cell? ⟨w6.heap.size, 1, none⟩ = some (.slice A6 n6 c6) := by rw [(bxcell b10).1 _ _ (by first | omega | (simp; done) | (simp; omega))]; simp [go_sem, *]
  have k10_2_2 : w10.cell? ⟨w6.heap.size, 2, none⟩ = some (.slice B6 m6 d6) := by rw [(bxcell b10).1 _ _ (by first | omega | (simp; done) | (simp; omega))]; simp [go_sem, *]
  have k10_3_0 : w10.cell? ⟨w7.heap.size, 0, none⟩ = some (.bool s1) := by rw [(bxcell b10).1 _ _ (by first | omega | (simp; done) | (simp; omega))]; simp [go_sem, *]
  have k10_3_1 : w10.cell? ⟨w7.heap.size, 1, none⟩ = some (.slice A7 n7 c7) := by rw [(bxcell b10).1 _ _ (by first | omega | (simp; done) | (simp; omega))]; simp [go_sem, *]
  have k10_3_2 : w10.cell? ⟨w7.heap.size, 2, none⟩ = some (.slice B7 m7 d7) := by rw [(bxcell b10).1 _ _ (by first | omega | (simp; done) | (simp; omega))]; simp [go_sem, *]
  clear k8_0_0 k8_0_1 k8_0_2 k8_1_0 k8_1_1 k8_1_2 k8_2_0 k8_2_1 k8_2_2 k8_3_0 k8_3_1 k8_3_2 y8_0 y8_1 y8_2 y8_3 hc9 hf9 q9_0 q9_1 q9_2 q9_3 yb9_0 yc9_0 yb9_1 yc9_1 yb9_2 yc9_2 yb9_3 yc9_3 hc10 hf10 q10_0 q10_1 q10_2 q10_3 yb10_0 yc10_0 yb10_1 yc10_1 yb10_2 yc10_2 yb10_3 yc10_3
  go_wp2_with fail
  go_region_held3 (fun w' => w'.cell? ⟨w7.heap.size, 0, none⟩ = some (.bool s1) ∧ w'.cell? ⟨w7.heap.size, 1, none⟩ = some (.slice A7 n7 c7) ∧ w'.cell? ⟨w7.heap.size, 2, none⟩ = some (.slice B7 m7 d7) ∧ w'.cell? ⟨w.heap.size + 1, 0, none⟩ = some (.bool s1) ∧ w'.cell? ⟨w.heap.size + 1, 1, none⟩ = some (.slice A1 us.length c1) ∧ w'.cell? ⟨w.heap.size + 1, 2, none⟩ = some (.slice B1 vs.length d1)) (go_keep)
    (first
      | (go_at_call 31; (with_reducible refine (laws_toRat s1 A1 B1 _ c1 _ d1 us vs _ (S1.out.below (by repeat' (first | (with_reducible exact Below.refl _ _) | (with_reducible refine Below.alloc ?_ ?_ _) | (with_reducible refine Below.setCell ?_ ?_ _) | (with_reducible refine below_drewN ?_ _) | (with_reducible refine Below.drew ?_) | (with_reducible refine below_step (by assumption) ?_ ?_) | omega | (simp; done) | (simp; omega)))) (R1.out.below (by repeat' (first | (with_reducible exact Below.refl _ _) | (with_reducible refine Below.alloc ?_ ?_ _) | (with_reducible refine Below.setCell ?_ ?_ _) | (with_reducible refine below_drewN ?_ _) | (with_reducible refine Below.drew ?_) | (with_reducible refine below_step (by assumption) ?_ ?_) | omega | (simp; done) | (simp; omega)))) (by omega) (by omega)).mono ?_); rintro e w11 ⟨A11, n11, c11, B11, m11, d11, rfl, o11, b11⟩; obtain ⟨hc11, hf11⟩ := bxcell b11; have q11_0 := fun o => hc11 (w.heap.size) o (by first | omega | (simp; done) | (simp; omega)); have q11_1 := fun o => hc11 (w.heap.size + 1) o (by first | omega | (simp; done) | (simp; omega)); have q11_2 := fun o => hc11 (w6.heap.size) o (by first | omega | (simp; done) | (simp; omega)); have q11_3 := fun o => hc11 (w7.heap.size) o (by first | omega | (simp; done) | (simp; omega)); have z11 := b11.size; (try simp at z11); have ya11_0 : w.heap.size < w11.heap.size := (by omega); have yb11_0 := Nat.ne_of_lt ya11_0; have yc11_0 := (Nat.ne_of_lt ya11_0).symm; have ya11_1 : w.heap.size + 1 < w11.heap.size := (by omega); have yb11_1 := Nat.ne_of_lt ya11_1; have yc11_1 := (Nat.ne_of_lt ya11_1).symm; have ya11_2 : w6.heap.size < w11.heap.size := (by omega); have yb11_2 := Nat.ne_of_lt ya11_2; have yc11_2 := (Nat.ne_of_lt ya11_2).symm; have ya11_3 : w7.heap.size < w11.heap.size := (by omega); have yb11_3 := Nat.ne_of_lt ya11_3; have yc11_3 := (Nat.ne_of_lt ya11_3).symm; have O11 := PairR.wide o11 (lo' := w10.heap.size) (by first | omega | (simp; done) | (simp; omega)) (Nat.le_refl _); clear o11)
      | (go_at_call 15; (with_reducible refine (eqRat s1 _ _ _ _ _ _ _ _ _ _ _ _ us vs _ (PairR.here O7 (by repeat' (first | (with_reducible exact Below.refl _ _) | (with_reducible refine Below.alloc ?_ ?_ _) | (with_reducible refine Below.setCell ?_ ?_ _) | (with_reducible refine below_drewN ?_ _) | (with_reducible refine Below.drew ?_) | (with_reducible refine below_step (by assumption) ?_ ?_) | omega | (simp; done) | (simp; omega)))).sl1 (PairR.here O7 (by repeat' (first | (with_reducible exact Below.refl _ _) | (with_reducible refine Below.alloc ?_ ?_ _) | (with_reducible refine Below.setCell ?_ ?_ _) | (with_reducible refine below_drewN ?_ _) | (with_reducible refine Below.drew ?_) | (with_reducible refine below_step (by assumption) ?_ ?_) | omega | (simp; done) | (simp; omega)))).sl2 (PairR.here O11 (by repeat' (first | (with_reducible exact Below.refl _ _) | (with_reducible refine Below.alloc ?_ ?_ _) | (with_reducible refine Below.setCell ?_ ?_ _) | (with_reducible refine below_drewN ?_ _) | (with_reducible refine Below.drew ?_) | (with_reducible refine below_step (by assumption) ?_ ?_) | omega | (simp; done) | (simp; omega)))).sl1 (PairR.here O11 (by repeat' (first | (with_reducible exact Below.refl _ _) | (with_reducible refine Below.alloc ?_ ?_ _) | (with_reducible refine Below.setCell ?_ ?_ _) | (with_reducible refine below_drewN ?_ _) | (with_reducible refine Below.drew ?_) | (with_reducible refine below_step (by assumption) ?_ ?_) | omega | (simp; done) | (simp; omega)))).sl2).mono ?_); rintro e w12 ⟨rfl, b12⟩; obtain ⟨hc12, hf12⟩ := bxcell b12; have q12_0 := fun o => hc12 (w.heap.size) o (by first | omega | (simp; done) | (simp; omega)); have q12_1 := fun o => hc12 (w.heap.size + 1) o (by first | omega | (simp; done) | (simp; omega)); have q12_2 := fun o => hc12 (w6.heap.size) o (by first | omega | (simp; done) | (simp; omega)); have q12_3 := fun o => hc12 (w7.heap.size) o (by first | omega | (simp; done) | (simp; omega)); have z12 := b12.size; (try simp at z12); have ya12_0 : w.heap.size < w12.heap.size := (by omega); have yb12_0 := Nat.ne_of_lt ya12_0; have yc12_0 := (Nat.ne_of_lt ya12_0).symm; have ya12_1 : w.heap.size + 1 < w12.heap.size := (by omega); have yb12_1 := Nat.ne_of_lt ya12_1; have yc12_1 := (Nat.ne_of_lt ya12_1).symm; have ya12_2 : w6.heap.size < w12.heap.size := (by omega); have yb12_2 := Nat.ne_of_lt ya12_2; have yc12_2 := (Nat.ne_of_lt ya12_2).symm; have ya12_3 : w7.heap.size < w12.heap.size := (by omega); have yb12_3 := Nat.ne_of_lt ya12_3; have yc12_3 := (Nat.ne_of_lt ya12_3).symm))
  have z12 := b12.size
  (try simp at z12)
  have y12_0 : w.heap.size < w12.heap.size := by omega
  have y12_1 : w.heap.size + 1 < w12.heap.size := by omega
  have y12_2 : w6.heap.size < w12.heap.size := by omega
  have y12_3 : w7.heap.size < w12.heap.size := by omega
  have k12_0_0 : w12.cell? ⟨w.heap.size, 0, none⟩ = some (.bool s0) := by rw [(bxcell b12).1 _ _ (by first | omega | (simp; done) | (simp; omega))]; simp [go_sem, *]
  have k12_0_1 : w12.cell? ⟨w.heap.size, 1, none⟩ = some (.slice A0 xs.length c0) := by rw [(bxcell b12).1 _ _ (by first | omega | (simp; done) | (simp; omega))]; simp [go_sem, *]
  have k12_0_2 : w12.cell? ⟨w.heap.size, 2, none⟩ = some (.slice B0 ys.length d0) := by rw [(bxcell b12).1 _ _ (by first | omega | (simp; done) | (simp; omega))]; simp [go_sem, *]
  have k12_1_0 : w12.cell? ⟨w.heap.size + 1, 0, none⟩ = some (.bool s1) := by rw [(bxcell b12).1 _ _ (by first | omega | (simp; done) | (simp; omega))]; simp [go_sem, *]
  have k12_1_1 : w12.cell? ⟨w.heap.size + 1, 1, none⟩ = some (.slice A1 us.length c1) := by rw [(bxcell b12).1 _ _ (by first | omega | (simp; done) | (simp; omega))]; simp [go_sem, *]
  have k12_1_2 : w12.cell? ⟨w.heap.size + 1, 2, none⟩ = some (.slice B1 vs.length d1) := by rw [(bxcell b12).1 _ _ (by first | omega | (simp; done) | (simp; omega))]; simp [go_sem, *]
  have k12_2_0 : w12.cell? ⟨w6.heap.size, 0, none⟩ = some (.bool s0) := by rw [(bxcell b12).1 _ _ (by first | omega | (simp; done) | (simp; omega))]; simp [go_sem, *]
  have k12_2_1 : w12.cell? ⟨w6.heap.size, 1, none⟩ = some (.slice A6 n6 c6) := by rw [(bxcell b12).1 _ _ (by first | omega | (simp; done) | (simp; omega))]; simp [go_sem, *]
  have k12_2_2 : w12.cell? ⟨w6.heap.size, 2, none⟩ = some (.slice B6 m6 d6) := by rw [(bxcell b12).1 _ _ (by first | omega | (simp; done) | (simp; omega))]; simp [go_sem, *]
  have k12_3_0 : w12.cell? ⟨w7.heap.size, 0, none⟩ = some (.bool s1) := by rw [(bxcell b12).1 _ _ (by first | omega | (simp; done) | (simp; omega))]; simp [go_sem, *]
  have k12_3_1 : w12.cell? ⟨w7.heap.size, 1, none⟩ = some (.slice A7 n7 c7) := by rw [(bxcell b12).1 _ _ (by first | omega | (simp; done) | (simp; omega))]; simp [go_sem, *]
  have k12_3_2 : w12.cell? ⟨w7.heap.size, 2, none⟩ = some (.slice B7 m7 d7) := by rw [(bxcell b12).1 _ _ (by first | omega | (simp; done) | (simp; omega))]; simp [go_sem, *]
  clear k10_0_0 k10_0_1 k10_0_2 k10_1_0 k10_1_1 k10_1_2 k10_2_0 k10_2_1 k10_2_2 k10_3_0 k10_3_1 k10_3_2 y10_0 y10_1 y10_2 y10_3 hc11 hf11 q11_0 q11_1 q11_2 q11_3 yb11_0 yc11_0 yb11_1 yc11_1 yb11_2 yc11_2 yb11_3 yc11_3 hc12 hf12 q12_0 q12_1 q12_2 q12_3 yb12_0 yc12_0 yb12_1 yc12_1 yb12_2 yc12_2 yb12_3 yc12_3
  go_wp2
  go_ret
  exact ⟨rfl, (by repeat' (first | (with_reducible exact Below.refl _ _) | (with_reducible refine Below.alloc ?_ ?_ _) | (with_reducible refine Below.setCell ?_ ?_ _) | (with_reducible refine below_drewN ?_ _) | (with_reducible refine Below.drew ?_) | (with_reducible refine below_step (by assumption) ?_ ?_) | omega | (simp; done) | (simp; omega)))⟩
theorem fnExactRatEqual.own : ownKnob Try.prog.godebug = none := by kernel_rfl
theorem fnExactRatEqual.laidOut : laidOutB Try.prog = true := by kernel_rfl
set_option linter.unusedVariables false in
set_option maxRecDepth 100000 in
theorem fnExactRatEqual.lifted (os : Os) (started : os.Started) (H : Type) (enc : TypeId × Value → H) :
    ReturnsInHanded {} Try.checked os 5 .any (Rows.fnExactRatEqualSpec.pre6 enc Try.prog Try.f5 Rows.fnExactRatEqualRow.domain false) (Rows.fnExactRatEqualSpec.post enc Try.prog Try.f5 false true false false) := by
  refine returnsInHanded_of_change (C := Try.checked) fnExactRatEqual.own started (by kernel_rfl) Try.func5
    (ChangeSpec.witness6 (enc := enc) (C := Try.checked) false ⟨#[], #[.agg #[.bool false, .slice none 0 0, .slice none 0 0], .agg #[.bool false, .slice none 0 0, .slice none 0 0]], []⟩ 8 (by kernel_rfl) (by kernel_rfl) (by kernel_rfl) (by kernel_rfl)) ?_
  intro W base args ds gs before hval0 hW hcnd _
  have hval : ∀ (j : Nat) t v, Try.f5.params[j]? = some t → args[j]? = some v → Value.okWide Try.prog W .any base t v := hval0
  have hW' := hW
  obtain ⟨p, q, hA0, hV, rfl, hfz, hnd⟩ := hW
  have hA : DataW.TrodAll enc Try.prog W 0 (fun _ => true) true Try.f5.params.toList args.toList ds p := hA0
  rw [Try.params5] at hA hval
  obtain ⟨v0, vs0, d0, ds0, p0, q0, hargs, rfl, rfl, h0, r0⟩ := trodAll_cons hA
  obtain ⟨v1, vs1, d1, ds1, p1, q1, rfl, rfl, rfl, h1, r1⟩ := trodAll_cons r0
  obtain ⟨rfl, rfl, rfl⟩ := trodAll_nil r1
  obtain rfl : args = #[v0, v1] := by cases args; simp_all
  obtain ⟨rfl, rfl⟩ := trodVars_none hV
  have k0 := h0
  have lt0 : ∀ x ∈ p0, x.block < W.heap.size := by obtain ⟨m, hm⟩ := k0; exact DataW.trod_lt m _ _ _ hm
  have k1 := h1
  have lt1 : ∀ x ∈ p1, x.block < W.heap.size := by obtain ⟨m, hm⟩ := k1; exact DataW.trod_lt m _ _ _ hm
  obtain ⟨n0, u0, x0, t0, y0, rfl, s0, f0, z0, g0⟩ := open_ratL Try.underlying43 (by kernel_rfl) rfl rfl rfl rfl (by kernel_rfl) Try.underlying31 (by kernel_rfl) rfl rfl rfl rfl (by kernel_rfl) Try.underlying4 Try.underlying22 Try.underlying3 (by kernel_rfl) (hval 0 43 v0 rfl rfl) h0
  obtain ⟨n1, u1, x1, t1, y1, rfl, s1, f1, z1, g1⟩ := open_ratL Try.underlying43 (by kernel_rfl) rfl rfl rfl rfl (by kernel_rfl) Try.underlying31 (by kernel_rfl) rfl rfl rfl rfl (by kernel_rfl) Try.underlying4 Try.underlying22 Try.underlying3 (by kernel_rfl) (hval 1 43 v1 rfl rfl) h1
  clear hA0 hval0
  refine (walk_FnExactRatEqual W n0 u0 x0 t0 y0 s0 f0 z0 g0 n1 u1 x1 t1 y1 s1 f1 z1 g1).mono fun e W' ⟨he, bel⟩ => ?_
  subst he
  exact ⟨_, rfl, _, _, _, [], _, [], hW', trodAll_mk1 (shut_bool Try.underlying4 _), (trodAll_cons_mk (Below.trod fnExactRatEqual.laidOut (by kernel_rfl) (of_decide_eq_true (by kernel_rfl)) k0 bel lt0) (trodAll_cons_mk (Below.trod fnExactRatEqual.laidOut (by kernel_rfl) (of_decide_eq_true (by kernel_rfl)) k1 bel lt1) trodAll_mk0)), rfl, bel.frame _, fun h => by cases h⟩
theorem fnExactRatEqual.over : Rows.fnExactRatEqualRow.holds Try.pinned (OpenSpec.ofChange Rows.fnExactRatEqualSpec) :=
  OpenClaim.holds_of_wide 5 Try.f5 rfl rfl rfl rfl rfl rfl rfl ⟨rfl, rfl, rfl, rfl, rfl⟩ rfl rfl rfl rfl rfl (by kernel_rfl) Try.func5 (by kernel_rfl)
    (of_decide_eq_true (by kernel_rfl)) (by unfold Func.isWrapper; first | (rw [if_pos (by decide +kernel)]; kernel_rfl) | (rw [if_neg (by decide +kernel)]; exact ⟨rfl, rfl⟩))
    (fun os started H enc _ => fnExactRatEqual.lifted os started H enc)
/-- THE STATEMENT. -/
theorem fnExactRatEqual_holds : Rows.FnExactRatEqualSaid := fnExactRatEqual.over
#print axioms fnExactRatEqual_holds
end Go.Proofs.Ythbpdlmcpgegpaa
