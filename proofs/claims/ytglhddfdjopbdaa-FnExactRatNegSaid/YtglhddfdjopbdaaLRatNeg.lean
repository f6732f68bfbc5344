/-
  FnExactRatNeg, proved: for every fraction the law returns true. No further condition. Written by an AI agent.
-/
import Derived.Test.YtglhddfdjopbdaaRatY
import Derived.Test.YtglhddfdjopbdaaOpen
import Derived.Test.YtglhddfdjopbdaaBox
import Derived.Deep.RegionHeld3
import Derived.Deep.DeepCutAuto
namespace Go.Proofs.Ytglhddfdjopbdaa
open Go.ChangeShapes Go.WideShapes Go.ChangeAt Go.RowKit

set_option maxRecDepth 100000 in
set_option maxHeartbeats 8000000 in
theorem walk_FnExactRatNeg (w : World) (s0 : Bool) (v0 : Value) (xs : List Int) (u0 : Value) (ys : List Int) (h0 : Sl w v0 xs) (_f0 : Wf xs) (i0 : Sl w u0 ys) (_g0 : Wf ys) :
    Calls Try.prog 9 #[.agg #[.bool s0, v0, u0]] w fun e w' => e = .returned (.bool true) ∧ Below w.heap.size w w' := by
  have S0 := Lib.hid h0
  clear _f0
  obtain ⟨A0, c0, rfl, p1, p2, p3⟩ := h0
  have hm0 : xs.length ≤ 9223372036854775807 := by unfold maxLen at p2; omega
  clear p1 p2 p3
  have R0 := Lib.hid i0
  clear _g0
  obtain ⟨B0, d0, rfl, p1, p2, p3⟩ := i0
  have hn0 : ys.length ≤ 9223372036854775807 := by unfold maxLen at p2; omega
  clear p1 p2 p3
  obtain ⟨rs0, hr⟩ : ∃ x, x = decide ((ratNegF s0 xs ys).1 < 0) := ⟨_, rfl⟩
  have X0 := Lib.hid hr
  clear hr
  obtain ⟨rs1, hr⟩ : ∃ x, x = toL (ratNegF s0 xs ys).1.natAbs := ⟨_, rfl⟩
  have hl1 : rs1.length ≤ 2000000 := by rw [hr]; exact (ratNegF_len s0 xs ys).1
  have X1 := Lib.hid hr
  clear hr
  obtain ⟨rs2, hr⟩ : ∃ x, x = toL (ratNegF s0 xs ys).2 := ⟨_, rfl⟩
  have hl2 : rs2.length ≤ 2000000 := by rw [hr]; exact (ratNegF_len s0 xs ys).2
  have X2 := Lib.hid hr
  clear hr
  go_enter Try.func9, Try.ntmps9
  go_wp2_with fail
  (with_reducible refine (laws_szRatR s0 A0 xs.length c0 B0 ys.length d0 (1048576) _ hm0 hn0 (by omega) (by omega)).mono ?_)
  rintro e w1 ⟨t1, rfl, ht1, b1⟩
  rcases ht1 with rfl | ⟨ha1, hb1⟩
  · go_wp2
    go_ret
    exact ⟨rfl, (by repeat' (first | (with_reducible exact Below.refl _ _) | (with_reducible refine Below.alloc ?_ ?_ _) | (with_reducible refine Below.setCell ?_ ?_ _) | (with_reducible refine below_drewN ?_ _) | (with_reducible refine Below.drew ?_) | (with_reducible refine below_step (by assumption) ?_ ?_) | omega | (simp; done) | (simp; omega)))⟩
  have z1 := b1.size
  (try simp at z1)
  have y1_0 : w.heap.size < w1.heap.size := by omega
  have k1_0_0 : w1.cell? ⟨w.heap.size, 0, none⟩ = some (.bool s0) := by rw [(bxcell b1).1 _ _ (by first | omega | (simp; done) | (simp; omega))]; simp [go_sem, *]
  have k1_0_1 : w1.cell? ⟨w.heap.size, 1, none⟩ = some (.slice A0 xs.length c0) := by rw [(bxcell b1).1 _ _ (by first | omega | (simp; done) | (simp; omega))]; simp [go_sem, *]
  have k1_0_2 : w1.cell? ⟨w.heap.size, 2, none⟩ = some (.slice B0 ys.length d0) := by rw [(bxcell b1).1 _ _ (by first | omega | (simp; done) | (simp; omega))]; simp [go_sem, *]
  go_wp2_with fail
  (with_reducible refine (laws_toRat s0 A0 B0 _ c0 _ d0 xs ys _ (S0.out.below (by repeat' (first | (with_reducible exact Below.refl _ _) | (with_reducible refine Below.alloc ?_ ?_ _) | (with_reducible refine Below.setCell ?_ ?_ _) | (with_reducible refine below_drewN ?_ _) | (with_reducible refine Below.drew ?_) | (with_reducible refine below_step (by assumption) ?_ ?_) | omega | (simp; done) | (simp; omega)))) (R0.out.below (by repeat' (first | (with_reducible exact Below.refl _ _) | (with_reducible refine Below.alloc ?_ ?_ _) | (with_reducible refine Below.setCell ?_ ?_ _) | (with_reducible refine below_drewN ?_ _) | (with_reducible refine Below.drew ?_) | (with_reducible refine below_step (by assumption) ?_ ?_) | omega | (simp; done) | (simp; omega)))) (by omega) (by omega)).mono ?_)
  rintro e w2 ⟨A2, n2, c2, B2, m2, d2, rfl, o2, b2⟩
  have O2 := PairR.wide o2 (lo' := w1.heap.size) (by first | omega | (simp; done) | (simp; omega)) (Nat.le_refl _)
  clear o2
  have z2 := b2.size
  (try simp at z2)
  have y2_0 : w.heap.size < w2.heap.size := by omega
  have k2_0_0 : w2.cell? ⟨w.heap.size, 0, none⟩ = some (.bool s0) := by rw [(bxcell b2).1 _ _ (by first | omega | (simp; done) | (simp; omega))]; simp [go_sem, *]
  have k2_0_1 : w2.cell? ⟨w.heap.size, 1, none⟩ = some (.slice A0 xs.length c0) := by rw [(bxcell b2).1 _ _ (by first | omega | (simp; done) | (simp; omega))]; simp [go_sem, *]
  have k2_0_2 : w2.cell? ⟨w.heap.size, 2, none⟩ = some (.slice B0 ys.length d0) := by rw [(bxcell b2).1 _ _ (by first | omega | (simp; done) | (simp; omega))]; simp [go_sem, *]
  clear k1_0_0 k1_0_1 k1_0_2 y1_0
  go_wp2_with fail
  (with_reducible refine (spec_RatNeg s0 _ _ _ _ _ _ xs ys _ (PairR.here O2 (by repeat' (first | (with_reducible exact Below.refl _ _) | (with_reducible refine Below.alloc ?_ ?_ _) | (with_reducible refine Below.setCell ?_ ?_ _) | (with_reducible refine below_drewN ?_ _) | (with_reducible refine Below.drew ?_) | (with_reducible refine below_step (by assumption) ?_ ?_) | omega | (simp; done) | (simp; omega)))).sl1 (PairR.here O2 (by repeat' (first | (with_reducible exact Below.refl _ _) | (with_reducible refine Below.alloc ?_ ?_ _) | (with_reducible refine Below.setCell ?_ ?_ _) | (with_reducible refine below_drewN ?_ _) | (with_reducible refine Below.drew ?_) | (with_reducible refine below_step (by assumption) ?_ ?_) | omega | (simp; done) | (simp; omega)))).sl2).mono ?_)
  rintro e w3 ⟨A3, n3, c3, B3, m3, d3, rfl, o3, b3⟩
  rw [← X0.out]
  rw [← X1.out, ← X2.out] at o3
  have O3 := PairR.wide o3 (lo' := w2.heap.size) (by first | omega | (simp; done) | (simp; omega)) (Nat.le_refl _)
  clear o3
  have z3 := b3.size
  (try simp at z3)
  have y3_0 : w.heap.size < w3.heap.size := by omega
  have k3_0_0 : w3.cell? ⟨w.heap.size, 0, none⟩ = some (.bool s0) := by rw [(bxcell b3).1 _ _ (by first | omega | (simp; done) | (simp; omega))]; simp [go_sem, *]
  have k3_0_1 : w3.cell? ⟨w.heap.size, 1, none⟩ = some (.slice A0 xs.length c0) := by rw [(bxcell b3).1 _ _ (by first | omega | (simp; done) | (simp; omega))]; simp [go_sem, *]
  have k3_0_2 : w3.cell? ⟨w.heap.size, 2, none⟩ = some (.slice B0 ys.length d0) := by rw [(bxcell b3).1 _ _ (by first | omega | (simp; done) | (simp; omega))]; simp [go_sem, *]
  clear k2_0_0 k2_0_1 k2_0_2 y2_0
  go_wp2_with fail
  (with_reducible refine (laws_toRat s0 A0 B0 _ c0 _ d0 xs ys _ (S0.out.below (by repeat' (first | (with_reducible exact Below.refl _ _) | (with_reducible refine Below.alloc ?_ ?_ _) | (with_reducible refine Below.setCell ?_ ?_ _) | (with_reducible refine below_drewN ?_ _) | (with_reducible refine Below.drew ?_) | (with_reducible refine below_step (by assumption) ?_ ?_) | omega | (simp; done) | (simp; omega)))) (R0.out.below (by repeat' (first | (with_reducible exact Below.refl _ _) | (with_reducible refine Below.alloc ?_ ?_ _) | (with_reducible refine Below.setCell ?_ ?_ _) | (with_reducible refine below_drewN ?_ _) | (with_reducible refine Below.drew ?_) | (with_reducible refine below_step (by assumption) ?_ ?_) | omega | (simp; done) | (simp; omega)))) (by omega) (by omega)).mono ?_)
  rintro e w4 ⟨A4, n4, c4, B4, m4, d4, rfl, o4, b4⟩
  have O4 := PairR.wide o4 (lo' := w3.heap.size + 1) (by first | omega | (simp; done) | (simp; omega)) (Nat.le_refl _)
  clear o4
  have z4 := b4.size
  (try simp at z4)
  have y4_0 : w.heap.size < w4.heap.size := by omega
  have y4_1 : w3.heap.size < w4.heap.size := by omega
  have k4_0_0 : w4.cell? ⟨w.heap.size, 0, none⟩ = some (.bool s0) := by rw [(bxcell b4).1 _ _ (by first | omega | (simp; done) | (simp; omega))]; simp [go_sem, *]
  have k4_0_1 : w4.cell? ⟨w.heap.size, 1, none⟩ = some (.slice A0 xs.length c0) := by rw [(bxcell b4).1 _ _ (by first | omega | (simp; done) | (simp; omega))]; simp [go_sem, *]
  have k4_0_2 : w4.cell? ⟨w.heap.size, 2, none⟩ = some (.slice B0 ys.length d0) := by rw [(bxcell b4).1 _ _ (by first | omega | (simp; done) | (simp; omega))]; simp [go_sem, *]
  have k4_1_0 : w4.cell? ⟨w3.heap.size, 0, none⟩ = some (.bool rs0) := by rw [(bxcell b4).1 _ _ (by first | omega | (simp; done) | (simp; omega))]; simp [go_sem, *]
  have k4_1_1 : w4.cell? ⟨w3.heap.size, 1, none⟩ = some (.slice A3 n3 c3) := by rw [(bxcell b4).1 _ _ (by first | omega | (simp; done) | (simp; omega))]; simp [go_sem, *]
  have k4_1_2 : w4.cell? ⟨w3.heap.size, 2, none⟩ = some (.slice B3 m3 d3) := by rw [(bxcell b4).1 _ _ (by first | omega | (simp; done) | (simp; omega))]; simp [go_sem, *]
  clear k3_0_0 k3_0_1 k3_0_2 y3_0
  go_wp2_with fail
  (with_reducible refine (impl_RatNeg s0 _ _ _ _ _ _ xs ys _ (PairR.here O4 (by repeat' (first | (with_reducible exact Below.refl _ _) | (with_reducible refine Below.alloc ?_ ?_ _) | (with_reducible refine Below.setCell ?_ ?_ _) | (with_reducible refine below_drewN ?_ _) | (with_reducible refine Below.drew ?_) | (with_reducible refine below_step (by assumption) ?_ ?_) | omega | (simp; done) | (simp; omega)))).sl1 (PairR.here O4 (by repeat' (first | (with_reducible exact Below.refl _ _) | (with_reducible refine Below.alloc ?_ ?_ _) | (with_reducible refine Below.setCell ?_ ?_ _) | (with_reducible refine below_drewN ?_ _) | (with_reducible refine Below.drew ?_) | (with_reducible refine below_step (by assumption) ?_ ?_) | omega | (simp; done) | (simp; omega)))).sl2).mono ?_)
  rintro e w5 ⟨A5, n5, c5, B5, m5, d5, rfl, o5, b5⟩
  rw [← X0.out]
  rw [← X1.out, ← X2.out] at o5
  have O5 := PairR.wide o5 (lo' := w4.heap.size + 1) (by first | omega | (simp; done) | (simp; omega)) (Nat.le_refl _)
  clear o5
  have z5 := b5.size
  (try simp at z5)
  have y5_0 : w.heap.size < w5.heap.size := by omega
  have y5_1 : w3.heap.size < w5.heap.size := by omega
  have y5_2 : w4.heap.size < w5.heap.size := by omega
  have k5_0_0 : w5.cell? ⟨w.heap.size, 0, none⟩ = some (.bool s0) := by rw [(bxcell b5).1 _ _ (by first | omega | (simp; done) | (simp; omega))]; simp [go_sem, *]
  have k5_0_1 : w5.cell? ⟨w.heap.size, 1, none⟩ = some (.slice A0 xs.length c0) := by rw [(bxcell b5).1 _ _ (by first | omega | (simp; done) | (simp; omega))]; simp [go_sem, *]
  have k5_0_2 : w5.cell? ⟨w.heap.size, 2, none⟩ = some (.slice B0 ys.length d0) := by rw [(bxcell b5).1 _ _ (by first | omega | (simp; done) | (simp; omega))]; simp [go_sem, *]
  have k5_1_0 : w5.cell? ⟨w3.heap.size, 0, none⟩ = some (.bool rs0) := by rw [(bxcell b5).1 _ _ (by first | omega | (simp; done) | (simp; omega))]; simp [go_sem, *]
  have k5_1_1 : w5.cell? ⟨w3.heap.size, 1, none⟩ = some (.slice A3 n3 c3) := by rw [(bxcell b5).1 _ _ (by first | omega | (simp; done) | (simp; omega))]; simp [go_sem, *]
  have k5_1_2 : w5.cell? ⟨w3.heap.size, 2, none⟩ = some (.slice B3 m3 d3) := by rw [(bxcell b5).1 _ _ (by first | omega | (simp; done) | (simp; omega))]; simp [go_sem, *]
  have k5_2_0 : w5.cell? ⟨w4.heap.size, 0, none⟩ = some (.bool s0) := by rw [(bxcell b5).1 _ _ (by first | omega | (simp; done) | (simp; omega))]; simp [go_sem, *]
  have k5_2_1 : w5.cell? ⟨w4.heap.size, 1, none⟩ = some (.slice A4 n4 c4) := by rw [(bxcell b5).1 _ _ (by first | omega | (simp; done) | (simp; omega))]; simp [go_sem, *]
  have k5_2_2 : w5.cell? ⟨w4.heap.size, 2, none⟩ = some (.slice B4 m4 d4) := by rw [(bxcell b5).1 _ _ (by first | omega | (simp; done) | (simp; omega))]; simp [go_sem, *]
  clear k4_0_0 k4_0_1 k4_0_2 k4_1_0 k4_1_1 k4_1_2 y4_0 y4_1
  go_wp2_with fail
  (with_reducible refine (eqRat rs0 _ _ _ _ _ _ _ _ _ _ _ _ rs1 rs2 _ (PairR.here O5 (by repeat' (first | (with_reducible exact Below.refl _ _) | (with_reducible refine Below.alloc ?_ ?_ _) | (with_reducible refine Below.setCell ?_ ?_ _) | (with_reducible refine below_drewN ?_ _) | (with_reducible refine Below.drew ?_) | (with_reducible refine below_step (by assumption) ?_ ?_) | omega | (simp; done) | (simp; omega)))).sl1 (PairR.here O5 (by repeat' (first | (with_reducible exact Below.refl _ _) | (with_reducible refine Below.alloc ?_ ?_ _) | (with_reducible refine Below.setCell ?_ ?_ _) | (with_reducible refine below_drewN ?_ _) | (with_reducible refine Below.drew ?_) | (with_reducible refine below_step (by assumption) ?_ ?_) | omega | (simp; done) | (simp; omega)))).sl2 (PairR.here O3 (by repeat' (first | (with_reducible exact Below.refl _ _) | (with_reducible refine Below.alloc ?_ ?_ _) | (with_reducible refine Below.setCell ?_ ?_ _) | (with_reducible refine below_drewN ?_ _) | (with_reducible refine Below.drew ?_) | (with_reducible refine below_step (by assumption) ?_ ?_) | omega | (simp; done) | (simp; omega)))).sl1 (PairR.here O3 (by repeat' (first | (with_reducible exact Below.refl _ _) | (with_reducible refine Below.alloc ?_ ?_ _) | (with_reducible refine Below.setCell ?_ ?_ _) | (with_reducible refine below_drewN ?_ _) | (with_reducible refine Below.drew ?_) | (with_reducible refine below_step (by assumption) ?_ ?_) | omega | (simp; done) | (simp; omega)))).sl2).mono ?_)
  rintro e w6 ⟨rfl, b6⟩
  have z6 := b6.size
  (try simp at z6)
  have y6_0 : w.heap.size < w6.heap.size := by omega
  have y6_1 : w3.heap.size < w6.heap.size := by omega
  have y6_2 : w4.heap.size < w6.heap.size := by omega
  have y6_3 : w5.heap.size < w6.heap.size := by omega
  have k6_0_0 : w6.cell? ⟨w.heap.size, 0, none⟩ = some (.bool s0) := by rw [(bxcell b6).1 _ _ (by first | omega | (simp; done) | (simp; omega))]; simp [go_sem, *]
  have k6_0_1 : w6.cell? ⟨w.heap.size, 1, none⟩ = some (.slice A0 xs.length c0) := by rw [(bxcell b6).1 _ _ (by first | omega | (simp; done) | (simp; omega))]; simp [go_sem, *]
  have k6_0_2 : w6.cell? ⟨w.heap.size, 2, none⟩ = some (.slice B0 ys.length d0) := by rw [(bxcell b6).1 _ _ (by first | omega | (simp; done) | (simp; omega))]; simp [go_sem, *]
  have k6_1_0 : w6.cell? ⟨w3.heap.size, 0, none⟩ = some (.bool rs0) := by rw [(bxcell b6).1 _ _ (by first | omega | (simp; done) | (simp; omega))]; simp [go_sem, *]
  have k6_1_1 : w6.cell? ⟨w3.heap.size, 1, none⟩ = some (.slice A3 n3 c3) := by rw [(bxcell b6).1 _ _ (by first | omega | (simp; done) | (simp; omega))]; simp [go_sem, *]
  have k6_1_2 : w6.cell? ⟨w3.heap.size, 2, none⟩ = some (.slice B3 m3 d3) := by rw [(bxcell b6).1 _ _ (by first | omega | (simp; done) | (simp; omega))]; simp [go_sem, *]
  have k6_2_0 : w6.cell? ⟨w4.heap.size, 0, none⟩ = some (.bool s0) := by rw [(bxcell b6).1 _ _ (by first | omega | (simp; done) | (simp; omega))]; simp [go_sem, *]
  have k6_2_1 : w6.cell? ⟨w4.heap.size, 1, none⟩ = some (.slice A4 n4 c4) := by rw [(bxcell b6).1 _ _ (by first | omega | (simp; done) | (simp; omega))]; simp [go_sem, *]
  have k6_2_2 : w6.cell? ⟨w4.heap.size, 2, none⟩ = some (.slice B4 m4 d4) := by rw [(bxcell b6).1 _ _ (by first | omega | (simp; done) | (simp; omega))]; simp [go_sem, *]
  have k6_3_0 : w6.cell? ⟨w5.heap.size, 0, none⟩ = some (.bool rs0) := by rw [(bxcell b6).1 _ _ (by first | omega | (simp; done) | (simp; omega))]; simp [go_sem, *]
  have k6_3_1 : w6.cell? ⟨w5.heap.size, 1, none⟩ = some (.slice A5 n5 c5) := by rw [(bxcell b6).1 _ _ (by first | omega | (simp; done) | (simp; omega))]; simp [go_sem, *]
  have k6_3_2 : w6.cell? ⟨w5.heap.size, 2, none⟩ = some (.slice B5 m5 d5) := by rw [(bxcell b6).1 _ _ (by first | omega | (simp; done) | (simp; omega))]; simp [go_sem, *]
  clear k5_0_0 k5_0_1 k5_0_2 k5_1_0 k5_1_1 k5_1_2 k5_2_0 k5_2_1 k5_2_2 y5_0 y5_1 y5_2
  go_wp2_with fail
  go_region_held3 (fun w' => w'.cell? ⟨w4.heap.size, 0, none⟩ = some (.bool s0) ∧ w'.cell? ⟨w4.heap.size, 1, none⟩ = some (.slice A4 n4 c4) ∧ w'.cell? ⟨w4.heap.size, 2, none⟩ = some (.slice B4 m4 d4) ∧ w'.cell? ⟨w.heap.size, 0, none⟩ = some (.bool s0) ∧ w'.cell? ⟨w.heap.size, 1, none⟩ = some (.slice A0 xs.length c0) ∧ w'.cell? ⟨w.heap.size, 2, none⟩ = some (.slice B0 ys.length d0)) (go_keep)
    (first
      | (go_at_call 28; (with_reducible refine (laws_toRat s0 A0 B0 _ c0 _ d0 xs ys _ (S0.out.below (by repeat' (first | (with_reducible exact Below.refl _ _) | (with_reducible refine Below.alloc ?_ ?_ _) | (with_reducible refine Below.setCell ?_ ?_ _) | (with_reducible refine below_drewN ?_ _) | (with_reducible refine Below.drew ?_) | (with_reducible refine below_step (by assumption) ?_ ?_) | omega | (simp; done) | (simp; omega)))) (R0.out.below (by repeat' (first | (with_reducible exact Below.refl _ _) | (with_reducible refine Below.alloc ?_ ?_ _) | (with_reducible refine Below.setCell ?_ ?_ _) | (with_reducible refine below_drewN ?_ _) | (with_reducible refine Below.drew ?_) | (with_reducible refine below_step (by assumption) ?_ ?_) | omega | (simp; done) | (simp; omega)))) (by omega) (by omega)).mono ?_); rintro e w7 ⟨A7, n7, c7, B7, m7, d7, rfl, o7, b7⟩; obtain ⟨hc7, hf7⟩ := bxcell b7; have q7_0 := fun o => hc7 (w.heap.size) o (by first | omega | (simp; done) | (simp; omega)); have q7_1 := fun o => hc7 (w3.heap.size) o (by first | omega | (simp; done) | (simp; omega)); have q7_2 := fun o => hc7 (w4.heap.size) o (by first | omega | (simp; done) | (simp; omega)); have q7_3 := fun o => hc7 (w5.heap.size) o (by first | omega | (simp; done) | (simp; omega)); have z7 := b7.size; (try simp at z7); have ya7_0 : w.heap.size < w7.heap.size := (by omega); have yb7_0 := Nat.ne_of_lt ya7_0; have yc7_0 := (Nat.ne_of_lt ya7_0).symm; have ya7_1 : w3.heap.size < w7.heap.size := (by omega); have yb7_1 := Nat.ne_of_lt ya7_1; have yc7_1 := (Nat.ne_of_lt ya7_1).symm; have ya7_2 : w4.heap.size < w7.heap.size := (by omega); have yb7_2 := Nat.ne_of_lt ya7_2; have yc7_2 := (Nat.ne_of_lt ya7_2).symm; have ya7_3 : w5.heap.size < w7.heap.size := (by omega); have yb7_3 := Nat.ne_of_lt ya7_3; have yc7_3 := (Nat.ne_of_lt ya7_3).symm; have O7 := PairR.wide o7 (lo' := w6.heap.size) (by first | omega | (simp; done) | (simp; omega)) (Nat.le_refl _); clear o7)
      | (go_at_call 30; (with_reducible refine (eqRat s0 _ _ _ _ _ _ _ _ _ _ _ _ xs ys _ (PairR.here O4 (by repeat' (first | (with_reducible exact Below.refl _ _) | (with_reducible refine Below.alloc ?_ ?_ _) | (with_reducible refine Below.setCell ?_ ?_ _) | (with_reducible refine below_drewN ?_ _) | (with_reducible refine Below.drew ?_) | (with_reducible refine below_step (by assumption) ?_ ?_) | omega | (simp; done) | (simp; omega)))).sl1 (PairR.here O4 (by repeat' (first | (with_reducible exact Below.refl _ _) | (with_reducible refine Below.alloc ?_ ?_ _) | (with_reducible refine Below.setCell ?_ ?_ _) | (with_reducible refine below_drewN ?_ _) | (with_reducible refine Below.drew ?_) | (with_reducible refine below_step (by assumption) ?_ ?_) | omega | (simp; done) | (simp; omega)))).sl2 (PairR.here O7 (by repeat' (first | (with_reducible exact Below.refl _ _) | (with_reducible refine Below.alloc ?_ ?_ _) | (with_reducible refine Below.setCell ?_ ?_ _) | (with_reducible refine below_drewN ?_ _) | (with_reducible refine Below.drew ?_) | (with_reducible refine below_step (by assumption) ?_ ?_) | omega | (simp; done) | (simp; omega)))).sl1 (PairR.here O7 (by repeat' (first | (with_reducible exact Below.refl _ _) | (with_reducible refine Below.alloc ?_ ?_ _) | (with_reducible refine Below.setCell ?_ ?_ _) | (with_reducible refine below_drewN ?_ _) | (with_reducible refine Below.drew ?_) | (with_reducible refine below_step (by assumption) ?_ ?_) | omega | (simp; done) | (simp; omega)))).sl2).mono ?_); rintro e w8 ⟨rfl, b8⟩; obtain ⟨hc8, hf8⟩ := bxcell b8; have q8_0 := fun o => hc8 (w.heap.size) o (by first | omega | (simp; done) | (simp; omega)); have q8_1 := fun o => hc8 (w3.heap.size) o (by first | omega | (simp; done) | (simp; omega)); have q8_2 := fun o => hc8 (w4.heap.size) o (by first | omega | (simp; done) | (simp; omega)); have q8_3 := fun o => hc8 (w5.heap.size) o (by first | omega | (simp; done) | (simp; omega)); have z8 := b8.size; (try simp at z8); have ya8_0 : w.heap.size < w8.heap.size := (by omega); have yb8_0 := Nat.ne_of_lt ya8_0; have yc8_0 := (Nat.ne_of_lt ya8_0).symm; have ya8_1 : w3.heap.size < w8.heap.size := (by omega); have yb8_1 := Nat.ne_of_lt ya8_1; have yc8_1 := (Nat.ne_of_lt ya8_1).symm; have ya8_2 : w4.heap.size < w8.heap.size := (by omega); have yb8_2 := Nat.ne_of_lt ya8_2; have yc8_2 := (Nat.ne_of_lt ya8_2).symm; have ya8_3 : w5.heap.size < w8.heap.size := (by omega); have yb8_3 := Nat.ne_of_lt ya8_3; have yc8_3 := (Nat.ne_of_lt ya8_3).symm))
  have z8 := b8.size
  (try simp at z8)
  have y8_0 : w.heap.size < w8.heap.size := by omega
  have y8_1 : w3.heap.size < w8.heap.size := by omega
  have y8_2 : w4.heap.size < w8.heap.size := by omega
  have y8_3 : w5.heap.size < w8.heap.size := by omega
  have k8_0_0 : w8.cell? ⟨w.heap.size, 0, none⟩ = some (.bool s0) := by rw [(bxcell b8).1 _ _ (by first | omega | (simp; done) | (simp; omega))]; simp [go_sem, *]
  have k8_0_1 : w8.cell? ⟨w.heap.size, 1, none⟩ = some (.slice A0 xs.length c0) := by rw [(bxcell b8).1 _ _ (by first | omega | (simp; done) | (simp; omega))]; simp [go_sem, *]
  have k8_0_2 : w8.cell? ⟨w.heap.size, 2, none⟩ = some (.slice B0 ys.length d0) := by rw [(bxcell b8).1 _ _ (by first | omega | (simp; done) | (simp; omega))]; simp [go_sem, *]
  have k8_1_0 : w8.cell? ⟨w3.heap.size, 0, none⟩ = some (.bool rs0) := by rw [(bxcell b8).1 _ _ (by first | omega | (simp; done) | (simp; omega))]; simp [go_sem, *]
  have k8_1_1 : w8.cell? ⟨w3.heap.size, 1, none⟩ = some (.slice A3 n3 c3) := by rw [(bxcell b8).1 _ _ (by first | omega | (simp; done) | (simp; omega))]; simp [go_sem, *]
  have k8_1_2 : w8.cell? ⟨w3.heap.size, 2, none⟩ = some (.slice B3 m3 d3) := by rw [(bxcell b8).1 _ _ (by first | omega | (simp; done) | (simp; omega))]; simp [go_sem, *]
  have k8_2_0 : w8.cell? ⟨w4.heap.size, 0, none⟩ = some (.bool s0) := by rw [(bxcell b8).1 _ _ (by first | omega | (simp; done) | (simp; omega))]; simp [go_sem, *]
  have k8_2_1 : w8.cell? ⟨w4.heap.size, 1, none⟩ = some (.slice A4 n4 c4) := by rw [(bxcell b8).1 _ _ (by first | omega | (simp; done) | (simp; omega))]; simp [go_sem, *]
  have k8_2_2 : w8.cell? ⟨w4.heap.size, 2, none⟩ = some (.slice B4 m4 d4) := by rw [(bxcell b8).1 _ _ (by first | omega | (simp; done) | (simp; omega))]; simp [go_sem, *]
  have k8_3_0 : w8.cell? ⟨w5.heap.size, 0, none⟩ = some (.bool rs0) := by rw [(bxcell b8).1 _ _ (by first | omega | (simp; done) | (simp; omega))]; simp [go_sem, *]
  have k8_3_1 : w8.cell? ⟨w5.heap.size, 1, none⟩ = some (.slice A5 n5 c5) := by rw [(bxcell b8).1 _ _ (by first | omega | (simp; done) | (simp; omega))]; simp [go_sem, *]
  have k8_3_2 : w8.cell? ⟨w5.heap.size, 2, none⟩ = some (.slice B5 m5 d5) := by rw [(bxcell b8).1 _ _ (by first | omega | (simp; done) | (simp; omega))]; simp [go_sem, *]
  clear k6_0_0 k6_0_1 k6_0_2 k6_1_0 k6_1_1 k6_1_2 k6_2_0 k6_2_1 k6_2_2 k6_3_0 k6_3_1 k6_3_2 y6_0 y6_1 y6_2 y6_3 hc7 hf7 q7_0 q7_1 q7_2 q7_3 yb7_0 yc7_0 yb7_1 yc7_1 yb7_2 yc7_2 yb7_3 yc7_3 hc8 hf8 q8_0 q8_1 q8_2 q8_3 yb8_0 yc8_0 yb8_1 yc8_1 yb8_2 yc8_2 yb8_3 yc8_3
  go_wp2_with fail
  (with_reducible refine (markRat s0 _ _ _ _ _ _ xs ys (1) (w3.heap.size + 1) (w4.heap.size) _ (PairR.here O4 (by repeat' (first | (with_reducible exact Below.refl _ _) | (with_reducible refine Below.alloc ?_ ?_ _) | (with_reducible refine Below.setCell ?_ ?_ _) | (with_reducible refine below_drewN ?_ _) | (with_reducible refine Below.drew ?_) | (with_reducible refine below_step (by assumption) ?_ ?_) | omega | (simp; done) | (simp; omega)))) (by omega) (by omega) (by omega) (by omega)).mono ?_)
  rintro e w9 ⟨rfl, O9, fr9, b9⟩
  have O3x9 := PairR.across O3 (by repeat' (first | (with_reducible exact Below.refl _ _) | (with_reducible refine Below.alloc ?_ ?_ _) | (with_reducible refine Below.setCell ?_ ?_ _) | (with_reducible refine below_drewN ?_ _) | (with_reducible refine Below.drew ?_) | (with_reducible refine below_step (by assumption) ?_ ?_) | omega | (simp; done) | (simp; omega))) fr9 (by omega)
  clear O3
  have O5x9 := PairR.across O5 (by repeat' (first | (with_reducible exact Below.refl _ _) | (with_reducible refine Below.alloc ?_ ?_ _) | (with_reducible refine Below.setCell ?_ ?_ _) | (with_reducible refine below_drewN ?_ _) | (with_reducible refine Below.drew ?_) | (with_reducible refine below_step (by assumption) ?_ ?_) | omega | (simp; done) | (simp; omega))) fr9 (by omega)
  clear O5
  have z9 := b9.size
  (try simp at z9)
  have y9_0 : w.heap.size < w9.heap.size := by omega
  have y9_1 : w3.heap.size < w9.heap.size := by omega
  have y9_2 : w4.heap.size < w9.heap.size := by omega
  have y9_3 : w5.heap.size < w9.heap.size := by omega
  have k9_0_0 : w9.cell? ⟨w.heap.size, 0, none⟩ = some (.bool s0) := by rw [fr9.cell (by first | omega | (simp; done) | (simp; omega)) (by omega)]; simp [go_sem, *]
  have k9_0_1 : w9.cell? ⟨w.heap.size, 1, none⟩ = some (.slice A0 xs.length c0) := by rw [fr9.cell (by first | omega | (simp; done) | (simp; omega)) (by omega)]; simp [go_sem, *]
  have k9_0_2 : w9.cell? ⟨w.heap.size, 2, none⟩ = some (.slice B0 ys.length d0) := by rw [fr9.cell (by first | omega | (simp; done) | (simp; omega)) (by omega)]; simp [go_sem, *]
  have k9_1_0 : w9.cell? ⟨w3.heap.size, 0, none⟩ = some (.bool rs0) := by rw [fr9.cell (by first | omega | (simp; done) | (simp; omega)) (by omega)]; simp [go_sem, *]
  have k9_1_1 : w9.cell? ⟨w3.heap.size, 1, none⟩ = some (.slice A3 n3 c3) := by rw [fr9.cell (by first | omega | (simp; done) | (simp; omega)) (by omega)]; simp [go_sem, *]
  have k9_1_2 : w9.cell? ⟨w3.heap.size, 2, none⟩ = some (.slice B3 m3 d3) := by rw [fr9.cell (by first | omega | (simp; done) | (simp; omega)) (by omega)]; simp [go_sem, *]
  have k9_2_0 : w9.cell? ⟨w4.heap.size, 0, none⟩ = some (.bool s0) := by rw [fr9.cell (by first | omega | (simp; done) | (simp; omega)) (by omega)]; simp [go_sem, *]
  have k9_2_1 : w9.cell? ⟨w4.heap.size, 1, none⟩ = some (.slice A4 n4 c4) := by rw [fr9.cell (by first | omega | (simp; done) | (simp; omega)) (by omega)]; simp [go_sem, *]
  have k9_2_2 : w9.cell? ⟨w4.heap.size, 2, none⟩ = some (.slice B4 m4 d4) := by rw [fr9.cell (by first | omega | (simp; done) | (simp; omega)) (by omega)]; simp [go_sem, *]
  have k9_3_0 : w9.cell? ⟨w5.heap.size, 0, none⟩ = some (.bool rs0) := by rw [fr9.cell (by first | omega | (simp; done) | (simp; omega)) (by omega)]; simp [go_sem, *]
  have k9_3_1 : w9.cell? ⟨w5.heap.size, 1, none⟩ = some (.slice A5 n5 c5) := by rw [fr9.cell (by first | omega | (simp; done) | (simp; omega)) (by omega)]; simp [go_sem, *]
  have k9_3_2 : w9.cell? ⟨w5.heap.size, 2, none⟩ = some (.slice B5 m5 d5) := by rw [fr9.cell (by first | omega | (simp; done) | (simp; omega)) (by omega)]; simp [go_sem, *]
  clear k8_0_0 k8_0_1 k8_0_2 k8_1_0 k8_1_1 k8_1_2 k8_2_0 k8_2_1 k8_2_2 k8_3_0 k8_3_1 k8_3_2 y8_0 y8_1 y8_2 y8_3
  go_wp2_with fail
  (with_reducible refine (eqRat rs0 _ _ _ _ _ _ _ _ _ _ _ _ rs1 rs2 _ (PairR.here O5x9 (by repeat' (first | (with_reducible exact Below.refl _ _) | (with_reducible refine Below.alloc ?_ ?_ _) | (with_reducible refine Below.setCell ?_ ?_ _) | (with_reducible refine below_drewN ?_ _) | (with_reducible refine Below.drew ?_) | (with_reducible refine below_step (by assumption) ?_ ?_) | omega | (simp; done) | (simp; omega)))).sl1 (PairR.here O5x9 (by repeat' (first | (with_reducible exact Below.refl _ _) | (with_reducible refine Below.alloc ?_ ?_ _) | (with_reducible refine Below.setCell ?_ ?_ _) | (with_reducible refine below_drewN ?_ _) | (with_reducible refine Below.drew ?_) | (with_reducible refine below_step (by assumption) ?_ ?_) | omega | (simp; done) | (simp; omega)))).sl2 (PairR.here O3x9 (by repeat' (first | (with_reducible exact Below.refl _ _) | (with_reducible refine Below.alloc ?_ ?_ _) | (with_reducible refine Below.setCell ?_ ?_ _) | (with_reducible refine below_drewN ?_ _) | (with_reducible refine Below.drew ?_) | (with_reducible refine below_step (by assumption) ?_ ?_) | omega | (simp; done) | (simp; omega)))).sl1 (PairR.here O3x9 (by repeat' (first | (with_reducible exact Below.refl _ _) | (with_reducible refine Below.alloc ?_ ?_ _) | (with_reducible refine Below.setCell ?_ ?_ _) | (with_reducible refine below_drewN ?_ _) | (with_reducible refine Below.drew ?_) | (with_reducible refine below_step (by assumption) ?_ ?_) | omega | (simp; done) | (simp; omega)))).sl2).mono ?_)
  rintro e w10 ⟨rfl, b10⟩
  have z10 := b10.size
  (try simp at z10)
  have y10_0 : w.heap.size < w10.heap.size := by omega
  have y10_1 : w3.heap.size < w10.heap.size := by omega
  have y10_2 : w4.heap.size < w10.heap.size := by omega
  have y10_3 : w5.heap.size < w10.heap.size := by omega
  have k10_0_0 : w10.cell? ⟨w.heap.size, 0, none⟩ = some (.bool s0) := by rw [(bxcell b10).1 _ _ (by first | omega | (simp; done) | (simp; omega))]; simp [go_sem, *]
  have k10_0_1 : w10.cell? ⟨w.heap.size, 1, none⟩ = some (.slice A0 xs.length c0) := by rw [(bxcell b10).1 _ _ (by first | omega | (simp; done) | (simp; omega))]; simp [go_sem, *]
  have k10_0_2 : w10.cell? ⟨w.heap.size, 2, none⟩ = some (.slice B0 ys.length d0) := by rw [(bxcell b10).1 _ _ (by first | omega | (simp; done) | (simp; omega))]; simp [go_sem, *]
  have k10_1_0 : w10.cell? ⟨w3.heap.size, 0, none⟩ = some (.bool rs0) := by rw [(bxcell b10).1 _ _ (by first | omega | (simp; done) | (simp; omega))]; simp [go_sem, *]
  have k10_1_1 : w10.cell? ⟨w3.heap.size, 1, none⟩ = some (.slice A3 n3 c3) := by rw [(bxcell b10).1 _ _ (by first | omega | (simp; done) | (simp; omega))]; simp [go_sem, *]
  have k10_1_2 : w10.cell? ⟨w3.heap.size, 2, none⟩ = some (.slice B3 m3 d3) := by rw [(bxcell b10).1 _ _ (by first | omega | (simp; done) | (simp; omega))]; simp [go_sem, *]
  have k10_2_0 : w10.cell? ⟨w4.heap.size, 0, none⟩ = some (.bool s0) := by rw [(bxcell b10).1 _ _ (by first | omega | (simp; done) | (simp; omega))]; simp [go_sem, *]
  have k10_2_1 : w10.cell? ⟨w4.heap.size, 1, none⟩ = some (.slice A4 n4 c4) := by rw [(bxcell b10).1 _ _ (by first | omega | (simp; done) | (simp; omega))]; simp [go_sem, *]
  have k10_2_2 : w10.cell? ⟨w4.heap.size, 2, none⟩ = some (.slice B4 m4 d4) := by rw [(bxcell b10).1 _ _ (by first | omega | (simp; done) | (simp; omega))]; simp [go_sem, *]
  have k10_3_0 : w10.cell? ⟨w5.heap.size, 0, none⟩ = some (.bool rs0) := by rw [(bxcell b10).1 _ _ (by first | omega | (simp; done) | (simp; omega))]; simp [go_sem, *]
  have k10_3_1 : w10.cell? ⟨w5.heap.size, 1, none⟩ = some (.slice A5 n5 c5) := by rw [(bxcell b10).1 _ _ (by first | omega | (simp; done) | (simp; omega))]; simp [go_sem, *]
  have k10_3_2 : w10.cell? ⟨w5.heap.size, 2, none⟩ = some (.slice B5 m5 d5) := by rw [(bxcell b10).1 _ _ (by first | omega | (simp; done) | (simp; omega))]; simp [go_sem, *]
  clear k9_0_0 k9_0_1 k9_0_2 k9_1_0 k9_1_1 k9_1_2 k9_2_0 k9_2_1 k9_2_2 k9_3_0 k9_3_1 k9_3_2 y9_0 y9_1 y9_2 y9_3
  go_wp2_with fail
  (with_reducible refine (markRat rs0 _ _ _ _ _ _ rs1 rs2 (1) (w4.heap.size + 1) (w5.heap.size) _ (PairR.here O5x9 (by repeat' (first | (with_reducible exact Below.refl _ _) | (with_reducible refine Below.alloc ?_ ?_ _) | (with_reducible refine Below.setCell ?_ ?_ _) | (with_reducible refine below_drewN ?_ _) | (with_reducible refine Below.drew ?_) | (with_reducible refine below_step (by assumption) ?_ ?_) | omega | (simp; done) | (simp; omega)))) (by omega) (by omega) (by omega) (by omega)).mono ?_)
  rintro e w11 ⟨rfl, O11, fr11, b11⟩
  have O3x9x11 := PairR.across O3x9 (by repeat' (first | (with_reducible exact Below.refl _ _) | (with_reducible refine Below.alloc ?_ ?_ _) | (with_reducible refine Below.setCell ?_ ?_ _) | (with_reducible refine below_drewN ?_ _) | (with_reducible refine Below.drew ?_) | (with_reducible refine below_step (by assumption) ?_ ?_) | omega | (simp; done) | (simp; omega))) fr11 (by omega)
  clear O3x9
  have z11 := b11.size
  (try simp at z11)
  have y11_0 : w.heap.size < w11.heap.size := by omega
  have y11_1 : w3.heap.size < w11.heap.size := by omega
  have y11_2 : w4.heap.size < w11.heap.size := by omega
  have y11_3 : w5.heap.size < w11.heap.size := by omega
  have k11_0_0 : w11.cell? ⟨w.heap.size, 0, none⟩ = some (.bool s0) := by rw [fr11.cell (by first | omega | (simp; done) | (simp; omega)) (by omega)]; simp [go_sem, *]
  have k11_0_1 : w11.cell? ⟨w.heap.size, 1, none⟩ = some (.slice A0 xs.length c0) := by rw [fr11.cell (by first | omega | (simp; done) | (simp; omega)) (by omega)]; simp [go_sem, *]
  have k11_0_2 : w11.cell? ⟨w.heap.size, 2, none⟩ = some (.slice B0 ys.length d0) := by rw [fr11.cell (by first | omega | (simp; done) | (simp; omega)) (by omega)]; simp [go_sem, *]
  have k11_1_0 : w11.cell? ⟨w3.heap.size, 0, none⟩ = some (.bool rs0) := by rw [fr11.cell (by first | omega | (simp; done) | (simp; omega)) (by omega)]; simp [go_sem, *]
  have k11_1_1 : w11.cell? ⟨w3.heap.size, 1, none⟩ = some (.slice A3 n3 c3) := by rw [fr11.cell (by first | omega | (simp; done) | (simp; omega)) (by omega)]; simp [go_sem, *]
  have k11_1_2 : w11.cell? ⟨w3.heap.size, 2, none⟩ = some (.slice B3 m3 d3) := by rw [fr11.cell (by first | omega | (simp; done) | (simp; omega)) (by omega)]; simp [go_sem, *]
  have k11_2_0 : w11.cell? ⟨w4.heap.size, 0, none⟩ = some (.bool s0) := by rw [fr11.cell (by first | omega | (simp; done) | (simp; omega)) (by omega)]; simp [go_sem, *]
  have k11_2_1 : w11.cell? ⟨w4.heap.size, 1, none⟩ = some (.slice A4 n4 c4) := by rw [fr11.cell (by first | omega | (simp; done) | (simp; omega)) (by omega)]; simp [go_sem, *]
  have k11_2_2 : w11.cell? ⟨w4.heap.size, 2, none⟩ = some (.slice B4 m4 d4) := by rw [fr11.cell (by first | omega | (simp; done) | (simp; omega)) (by omega)]; simp [go_sem, *]
  have k11_3_0 : w11.cell? ⟨w5.heap.size, 0, none⟩ = some (.bool rs0) := by rw [fr11.cell (by first | omega | (simp; done) | (simp; omega)) (by omega)]; simp [go_sem, *]
  have k11_3_1 : w11.cell? ⟨w5.heap.size, 1, none⟩ = some (.slice A5 n5 c5) := by rw [fr11.cell (by first | omega | (simp; done) | (simp; omega)) (by omega)]; simp [go_sem, *]
  have k11_3_2 : w11.cell? ⟨w5.heap.size, 2, none⟩ = some (.slice B5 m5 d5) := by rw [fr11.cell (by first | omega | (simp; done) | (simp; omega)) (by omega)]; simp [go_sem, *]
  clear k10_0_0 k10_0_1 k10_0_2 k10_1_0 k10_1_1 k10_1_2 k10_2_0 k10_2_1 k10_2_2 k10_3_0 k10_3_1 k10_3_2 y10_0 y10_1 y10_2 y10_3
  go_wp2_with fail
  (with_reducible refine (heldRat rs0 _ _ _ _ _ _ rs1.length rs2.length (1) _ (PairR.here O11 (by repeat' (first | (with_reducible exact Below.refl _ _) | (with_reducible refine Below.alloc ?_ ?_ _) | (with_reducible refine Below.setCell ?_ ?_ _) | (with_reducible refine below_drewN ?_ _) | (with_reducible refine Below.drew ?_) | (with_reducible refine below_step (by assumption) ?_ ?_) | omega | (simp; done) | (simp; omega)))).sl1 (PairR.here O11 (by repeat' (first | (with_reducible exact Below.refl _ _) | (with_reducible refine Below.alloc ?_ ?_ _) | (with_reducible refine Below.setCell ?_ ?_ _) | (with_reducible refine below_drewN ?_ _) | (with_reducible refine Below.drew ?_) | (with_reducible refine below_step (by assumption) ?_ ?_) | omega | (simp; done) | (simp; omega)))).sl2 (by omega) (by omega)).mono ?_)
  rintro e w12 ⟨rfl, b12⟩
  have z12 := b12.size
  (try simp at z12)
  have y12_0 : w.heap.size < w12.heap.size := by omega
  have y12_1 : w3.heap.size < w12.heap.size := by omega
  have y12_2 : w4.heap.size < w12.heap.size := by omega
  have y12_3 : w5.heap.size < w12.heap.size := by omega
  have k12_0_0 : w12.cell? ⟨w.heap.size, 0, none⟩ = some (.bool s0) := by rw [(bxcell b12).1 _ _ (by first | omega | (simp; done) | (simp; omega))]; simp [go_sem, *]
  have k12_0_1 : w12.cell? ⟨w.heap.size, 1, none⟩ = some (.slice A0 xs.length c0) := by rw [(bxcell b12).1 _ _ (by first | omega | (simp; done) | (simp; omega))]; simp [go_sem, *]
  have k12_0_2 : w12.cell? ⟨w.heap.size, 2, none⟩ = some (.slice B0 ys.length d0) := by rw [(bxcell b12).1 _ _ (by first | omega | (simp; done) | (simp; omega))]; simp [go_sem, *]
  have k12_1_0 : w12.cell? ⟨w3.heap.size, 0, none⟩ = some (.bool rs0) := by rw [(bxcell b12).1 _ _ (by first | omega | (simp; done) | (simp; omega))]; simp [go_sem, *]
  have k12_1_1 : w12.cell? ⟨w3.heap.size, 1, none⟩ = some (.slice A3 n3 c3) := by rw [(bxcell b12).1 _ _ (by first | omega | (simp; done) | (simp; omega))]; simp [go_sem, *]
  have k12_1_2 : w12.cell? ⟨w3.heap.size, 2, none⟩ = some (.slice B3 m3 d3) := by rw [(bxcell b12).1 _ _ (by first | omega | (simp; done) | (simp; omega))]; simp [go_sem, *]
  have k12_2_0 : w12.cell? ⟨w4.heap.size, 0, none⟩ = some (.bool s0) := by rw [(bxcell b12).1 _ _ (by first | omega | (simp; done) | (simp; omega))]; simp [go_sem, *]
  have k12_2_1 : w12.cell? ⟨w4.heap.size, 1, none⟩ = some (.slice A4 n4 c4) := by rw [(bxcell b12).1 _ _ (by first | omega | (simp; done) | (simp; omega))]; simp [go_sem, *]
  have k12_2_2 : w12.cell? ⟨w4.heap.size, 2, none⟩ = some (.slice B4 m4 d4) := by rw [(bxcell b12).1 _ _ (by first | omega | (simp; done) | (simp; omega))]; simp [go_sem, *]
  have k12_3_0 : w12.cell? ⟨w5.heap.size, 0, none⟩ = some (.bool rs0) := by rw [(bxcell b12).1 _ _ (by first | omega | (simp; done) | (simp; omega))]; simp [go_sem, *]
  have k12_3_1 : w12.cell? ⟨w5.heap.size, 1, none⟩ = some (.slice A5 n5 c5) := by rw [(bxcell b12).1 _ _ (by first | omega | (simp; done) | (simp; omega))]; simp [go_sem, *]
  have k12_3_2 : w12.cell? ⟨w5.heap.size, 2, none⟩ = some (.slice B5 m5 d5) := by rw [(bxcell b12).1 _ _ (by first | omega | (simp; done) | (simp; omega))]; simp [go_sem, *]
  clear k11_0_0 k11_0_1 k11_0_2 k11_1_0 k11_1_1 k11_1_2 k11_2_0 k11_2_1 k11_2_2 k11_3_0 k11_3_1 k11_3_2 y11_0 y11_1 y11_2 y11_3
  go_wp2_with fail
  (with_reducible refine (laws_toRat s0 A0 B0 _ c0 _ d0 xs ys _ (S0.out.below (by repeat' (first | (with_reducible exact Below.refl _ _) | (with_reducible refine Below.alloc ?_ ?_ _) | (with_reducible refine Below.setCell ?_ ?_ _) | (with_reducible refine below_drewN ?_ _) | (with_reducible refine Below.drew ?_) | (with_reducible refine below_step (by assumption) ?_ ?_) | omega | (simp; done) | (simp; omega)))) (R0.out.below (by repeat' (first | (with_reducible exact Below.refl _ _) | (with_reducible refine Below.alloc ?_ ?_ _) | (with_reducible refine Below.setCell ?_ ?_ _) | (with_reducible refine below_drewN ?_ _) | (with_reducible refine Below.drew ?_) | (with_reducible refine below_step (by assumption) ?_ ?_) | omega | (simp; done) | (simp; omega)))) (by omega) (by omega)).mono ?_)
  rintro e w13 ⟨A13, n13, c13, B13, m13, d13, rfl, o13, b13⟩
  have O13 := PairR.wide o13 (lo' := w12.heap.size) (by first | omega | (simp; done) | (simp; omega)) (Nat.le_refl _)
  clear o13
  have z13 := b13.size
  (try simp at z13)
  have y13_0 : w.heap.size < w13.heap.size := by omega
  have y13_1 : w3.heap.size < w13.heap.size := by omega
  have y13_2 : w4.heap.size < w13.heap.size := by omega
  have y13_3 : w5.heap.size < w13.heap.size := by omega
  have k13_0_0 : w13.cell? ⟨w.heap.size, 0, none⟩ = some (.bool s0) := by rw [(bxcell b13).1 _ _ (by first | omega | (simp; done) | (simp; omega))]; simp [go_sem, *]
  have k13_0_1 : w13.cell? ⟨w.heap.size, 1, none⟩ = some (.slice A0 xs.length c0) := by rw [(bxcell b13).1 _ _ (by first | omega | (simp; done) | (simp; omega))]; simp [go_sem, *]
  have k13_0_2 : w13.cell? ⟨w.heap.size, 2, none⟩ = some (.slice B0 ys.length d0) := by rw [(bxcell b13).1 _ _ (by first | omega | (simp; done) | (simp; omega))]; simp [go_sem, *]
  have k13_1_0 : w13.cell? ⟨w3.heap.size, 0, none⟩ = some (.bool rs0) := by rw [(bxcell b13).1 _ _ (by first | omega | (simp; done) | (simp; omega))]; simp [go_sem, *]
  have k13_1_1 : w13.cell? ⟨w3.heap.size, 1, none⟩ = some (.slice A3 n3 c3) := by rw [(bxcell b13).1 _ _ (by first | omega | (simp; done) | (simp; omega))]; simp [go_sem, *]
  have k13_1_2 : w13.cell? ⟨w3.heap.size, 2, none⟩ = some (.slice B3 m3 d3) := by rw [(bxcell b13).1 _ _ (by first | omega | (simp; done) | (simp; omega))]; simp [go_sem, *]
  have k13_2_0 : w13.cell? ⟨w4.heap.size, 0, none⟩ = some (.bool s0) := by rw [(bxcell b13).1 _ _ (by first | omega | (simp; done) | (simp; omega))]; simp [go_sem, *]
  have k13_2_1 : w13.cell? ⟨w4.heap.size, 1, none⟩ = some (.slice A4 n4 c4) := by rw [(bxcell b13).1 _ _ (by first | omega | (simp; done) | (simp; omega))]; simp [go_sem, *]
  have k13_2_2 : w13.cell? ⟨w4.heap.size, 2, none⟩ = some (.slice B4 m4 d4) := by rw [(bxcell b13).1 _ _ (by first | omega | (simp; done) | (simp; omega))]; simp [go_sem, *]
  have k13_3_0 : w13.cell? ⟨w5.heap.size, 0, none⟩ = some (.bool rs0) := by rw [(bxcell b13).1 _ _ (by first | omega | (simp; done) | (simp; omega))]; simp [go_sem, *]
  have k13_3_1 : w13.cell? ⟨w5.heap.size, 1, none⟩ = some (.slice A5 n5 c5) := by rw [(bxcell b13).1 _ _ (by first | omega | (simp; done) | (simp; omega))]; simp [go_sem, *]
  have k13_3_2 : w13.cell? ⟨w5.heap.size, 2, none⟩ = some (.slice B5 m5 d5) := by rw [(bxcell b13).1 _ _ (by first | omega | (simp; done) | (simp; omega))]; simp [go_sem, *]
  clear k12_0_0 k12_0_1 k12_0_2 k12_1_0 k12_1_1 k12_1_2 k12_2_0 k12_2_1 k12_2_2 k12_3_0 k12_3_1 k12_3_2 y12_0 y12_1 y12_2 y12_3
  go_wp2_with fail
  (with_reducible refine (impl_RatNeg s0 _ _ _ _ _ _ xs ys _ (PairR.here O13 (by repeat' (first | (with_reducible exact Below.refl _ _) | (with_reducible refine Below.alloc ?_ ?_ _) | (with_reducible refine Below.setCell ?_ ?_ _) | (with_reducible refine below_drewN ?_ _) | (with_reducible refine Below.drew ?_) | (with_reducible refine below_step (by assumption) ?_ ?_) | omega | (simp; done) | (simp; omega)))).sl1 (PairR.here O13 (by repeat' (first | (with_reducible exact Below.refl _ _) | (with_reducible refine Below.alloc ?_ ?_ _) | (with_reducible refine Below.setCell ?_ ?_ _) | (with_reducible refine below_drewN ?_ _) | (with_reducible refine Below.drew ?_) | (with_reducible refine below_step (by assumption) ?_ ?_) | omega | (simp; done) | (simp; omega)))).sl2).mono ?_)
  rintro e w14 ⟨A14, n14, c14, B14, m14, d14, rfl, o14, b14⟩
  rw [← X0.out]
  rw [← X1.out, ← X2.out] at o14
  have O14 := PairR.wide o14 (lo' := w13.heap.size) (by first | omega | (simp; done) | (simp; omega)) (Nat.le_refl _)
  clear o14
  have z14 := b14.size
  (try simp at z14)
  have y14_0 : w.heap.size < w14.heap.size := by omega
  have y14_1 : w3.heap.size < w14.heap.size := by omega
  have y14_2 : w4.heap.size < w14.heap.size := by omega
  have y14_3 : w5.heap.size < w14.heap.size := by omega
  have k14_0_0 : w14.cell? ⟨w.heap.size, 0, none⟩ = some (.bool s0) := by rw [(bxcell b14).1 _ _ (by first | omega | (simp; done) | (simp; omega))]; simp [go_sem, *]
  have k14_0_1 : w14.cell? ⟨w.heap.size, 1, none⟩ = some (.slice A0 xs.length c0) := by rw [(bxcell b14).1 _ _ (by first | omega | (simp; done) | (simp; omega))]; simp [go_sem, *]
  have k14_0_2 : w14.cell? ⟨w.heap.size, 2, none⟩ = some (.slice B0 ys.length d0) := by rw [(bxcell b14).1 _ _ (by first | omega | (simp; done) | (simp; omega))]; simp [go_sem, *]
  have k14_1_0 : w14.cell? ⟨w3.heap.size, 0, none⟩ = some (.bool rs0) := by rw [(bxcell b14).1 _ _ (by first | omega | (simp; done) | (simp; omega))]; simp [go_sem, *]
  have k14_1_1 : w14.cell? ⟨w3.heap.size, 1, none⟩ = some (.slice A3 n3 c3) := by rw [(bxcell b14).1 _ _ (by first | omega | (simp; done) | (simp; omega))]; simp [go_sem, *]
  have k14_1_2 : w14.cell? ⟨w3.heap.size, 2, none⟩ = some (.slice B3 m3 d3) := by rw [(bxcell b14).1 _ _ (by first | omega | (simp; done) | (simp; omega))]; simp [go_sem, *]
  have k14_2_0 : w14.cell? ⟨w4.heap.size, 0, none⟩ = some (.bool s0) := by rw [(bxcell b14).1 _ _ (by first | omega | (simp; done) | (simp; omega))]; simp [go_sem, *]
  have k14_2_1 : w14.cell? ⟨w4.heap.size, 1, none⟩ = some (.slice A4 n4 c4) := by rw [(bxcell b14).1 _ _ (by first | omega | (simp; done) | (simp; omega))]; simp [go_sem, *]
  have k14_2_2 : w14.cell? ⟨w4.heap.size, 2, none⟩ = some (.slice B4 m4 d4) := by rw [(bxcell b14).1 _ _ (by first | omega | (simp; done) | (simp; omega))]; simp [go_sem, *]
  have k14_3_0 : w14.cell? ⟨w5.heap.size, 0, none⟩ = some (.bool rs0) := by rw [(bxcell b14).1 _ _ (by first | omega | (simp; done) | (simp; omega))]; simp [go_sem, *]
  have k14_3_1 : w14.cell? ⟨w5.heap.size, 1, none⟩ = some (.slice A5 n5 c5) := by rw [(bxcell b14).1 _ _ (by first | omega | (simp; done) | (simp; omega))]; simp [go_sem, *]
  have k14_3_2 : w14.cell? ⟨w5.heap.size, 2, none⟩ = some (.slice B5 m5 d5) := by rw [(bxcell b14).1 _ _ (by first | omega | (simp; done) | (simp; omega))]; simp [go_sem, *]
  clear k13_0_0 k13_0_1 k13_0_2 k13_1_0 k13_1_1 k13_1_2 k13_2_0 k13_2_1 k13_2_2 k13_3_0 k13_3_1 k13_3_2 y13_0 y13_1 y13_2 y13_3
  go_wp2_with fail
  (with_reducible refine (eqRat rs0 _ _ _ _ _ _ _ _ _ _ _ _ rs1 rs2 _ (PairR.here O14 (by repeat' (first | (with_reducible exact Below.refl _ _) | (with_reducible refine Below.alloc ?_ ?_ _) | (with_reducible refine Below.setCell ?_ ?_ _) | (with_reducible refine below_drewN ?_ _) | (with_reducible refine Below.drew ?_) | (with_reducible refine below_step (by assumption) ?_ ?_) | omega | (simp; done) | (simp; omega)))).sl1 (PairR.here O14 (by repeat' (first | (with_reducible exact Below.refl _ _) | (with_reducible refine Below.alloc ?_ ?_ _) | (with_reducible refine Below.setCell ?_ ?_ _) | (with_reducible refine below_drewN ?_ _) | (with_reducible refine Below.drew ?_) | (with_reducible refine below_step (by assumption) ?_ ?_) | omega | (simp; done) | (simp; omega)))).sl2 (PairR.here O3x9x11 (by repeat' (first | (with_reducible exact Below.refl _ _) | (with_reducible refine Below.alloc ?_ ?_ _) | (with_reducible refine Below.setCell ?_ ?_ _) | (with_reducible refine below_drewN ?_ _) | (with_reducible refine Below.drew ?_) | (with_reducible refine below_step (by assumption) ?_ ?_) | omega | (simp; done) | (simp; omega)))).sl1 (PairR.here O3x9x11 (by repeat' (first | (with_reducible exact Below.refl _ _) | (with_reducible refine Below.alloc ?_ ?_ _) | (with_reducible refine Below.setCell ?_ ?_ _) | (with_reducible refine below_drewN ?_ _) | (with_reducible refine Below.drew ?_) | (with_reducible refine below_step (by assumption) ?_ ?_) | omega | (simp; done) | (simp; omega)))).sl2).mono ?_)
  rintro e w15 ⟨rfl, b15⟩
  have z15 := b15.size
  (try simp at z15)
  have y15_0 : w.heap.size < w15.heap.size := by omega
  have y15_1 : w3.heap.size < w15.heap.size := by omega
  have y15_2 : w4.heap.size < w15.heap.size := by omega
  have y15_3 : w5.heap.size < w15.heap.size := by omega
  have y15_4 : w14.heap.size < w15.heap.size := by omega
  have k15_0_0 : w15.cell? ⟨w.heap.size, 0, none⟩ = some (.bool s0) := by rw [(bxcell b15).1 _ _ (by first | omega | (simp; done) | (simp; omega))]; simp [go_sem, *]
  have k15_0_1 : w15.cell? ⟨w.heap.size, 1, none⟩ = some (.slice A0 xs.length c0) := by rw [(bxcell b15).1 _ _ (by first | omega | (simp; done) | (simp; omega))]; simp [go_sem, *]
  have k15_0_2 : w15.cell? ⟨w.heap.size, 2, none⟩ = some (.slice B0 ys.length d0) := by rw [(bxcell b15).1 _ _ (by first | omega | (simp; done) | (simp; omega))]; simp [go_sem, *]
  have k15_1_0 : w15.cell? ⟨w3.heap.size, 0, none⟩ = some (.bool rs0) := by rw [(bxcell b15).1 _ _ (by first | omega | (simp; done) | (simp; omega))]; simp [go_sem, *]
  have k15_1_1 : w15.cell? ⟨w3.heap.size, 1, none⟩ = some (.slice A3 n3 c3) := by rw [(bxcell b15).1 _ _ (by first | omega | (simp; done) | (simp; omega))]; simp [go_sem, *]
  have k15_1_2 : w15.cell? ⟨w3.heap.size, 2, none⟩ = some (.slice B3 m3 d3) := by rw [(bxcell b15).1 _ _ (by first | omega | (simp; done) | (simp; omega))]; simp [go_sem, *]
  have k15_2_0 : w15.cell? ⟨w4.heap.size, 0, none⟩ = some (.bool s0) := by rw [(bxcell b15).1 _ _ (by first | omega | (simp; done) | (simp; omega))]; simp [go_sem, *]
  have k15_2_1 : w15.cell? ⟨w4.heap.size, 1, none⟩ = some (.slice A4 n4 c4) := by rw [(bxcell b15).1 _ _ (by first | omega | (simp; done) | (simp; omega))]; simp [go_sem, *]
  have k15_2_2 : w15.cell? ⟨w4.heap.size, 2, none⟩ = some (.slice B4 m4 d4) := by rw [(bxcell b15).1 _ _ (by first | omega | (simp; done) | (simp; omega))]; simp [go_sem, *]
  have k15_3_0 : w15.cell? ⟨w5.heap.size, 0, none⟩ = some (.bool rs0) := by rw [(bxcell b15).1 _ _ (by first | omega | (simp; done) | (simp; omega))]; simp [go_sem, *]
  have k15_3_1 : w15.cell? ⟨w5.heap.size, 1, none⟩ = some (.slice A5 n5 c5) := by rw [(bxcell b15).1 _ _ (by first | omega | (simp; done) | (simp; omega))]; simp [go_sem, *]
  have k15_3_2 : w15.cell? ⟨w5.heap.size, 2, none⟩ = some (.slice B5 m5 d5) := by rw [(bxcell b15).1 _ _ (by first | omega | (simp; done) | (simp; omega))]; simp [go_sem, *]
  have k15_4_0 : w15.cell? ⟨w14.heap.size, 0, none⟩ = some (.bool rs0) := by rw [(bxcell b15).1 _ _ (by first | omega | (simp; done) | (simp; omega))]; simp [go_sem, *]
  have k15_4_1 : w15.cell? ⟨w14.heap.size, 1, none⟩ = some (.slice A14 n14 c14) := by rw [(bxcell b15).1 _ _ (by first | omega | (simp; done) | (simp; omega))]; simp [go_sem, *]
  have k15_4_2 : w15.cell? ⟨w14.heap.size, 2, none⟩ = some (.slice B14 m14 d14) := by rw [(bxcell b15).1 _ _ (by first | omega | (simp; done) | (simp; omega))]; simp [go_sem, *]
  clear k14_0_0 k14_0_1 k14_0_2 k14_1_0 k14_1_1 k14_1_2 k14_2_0 k14_2_1 k14_2_2 k14_3_0 k14_3_1 k14_3_2 y14_0 y14_1 y14_2 y14_3
  go_wp2_with fail
  (with_reducible refine (heldRat rs0 _ _ _ _ _ _ rs1.length rs2.length (1) _ (PairR.here O11 (by repeat' (first | (with_reducible exact Below.refl _ _) | (with_reducible refine Below.alloc ?_ ?_ _) | (with_reducible refine Below.setCell ?_ ?_ _) | (with_reducible refine below_drewN ?_ _) | (with_reducible refine Below.drew ?_) | (with_reducible refine below_step (by assumption) ?_ ?_) | omega | (simp; done) | (simp; omega)))).sl1 (PairR.here O11 (by repeat' (first | (with_reducible exact Below.refl _ _) | (with_reducible refine Below.alloc ?_ ?_ _) | (with_reducible refine Below.setCell ?_ ?_ _) | (with_reducible refine below_drewN ?_ _) | (with_reducible refine Below.drew ?_) | (with_reducible refine below_step (by assumption) ?_ ?_) | omega | (simp; done) | (simp; omega)))).sl2 (by omega) (by omega)).mono ?_)
  rintro e w16 ⟨rfl, b16⟩
  have z16 := b16.size
  (try simp at z16)
  have y16_0 : w.heap.size < w16.heap.size := by omega
  have y16_1 : w3.heap.size < w16.heap.size := by omega
  have y16_2 : w4.heap.size < w16.heap.size := by omega
  have y16_3 : w5.heap.size < w16.heap.size := by omega
  have y16_4 : w14.heap.size < w16.heap.size := by omega
  have k16_0_0 : w16.cell? ⟨w.heap.size, 0, none⟩ = some (.bool s0) := by rw [(bxcell b16).1 _ _ (by first | omega | (simp; done) | (simp; omega))]; simp [go_sem, *]
  have k16_0_1 : w16.cell? ⟨w.heap.size, 1, none⟩ = some (.slice A0 xs.length c0) := by rw [(bxcell b16).1 _ _ (by first | omega | (simp; done) | (simp; omega))]; simp [go_sem, *]
  have k16_0_2 : w16.cell? ⟨w.heap.size, 2, none⟩ = some (.slice B0 ys.length d0) := by rw [(bxcell b16).1 _ _ (by first | omega | (simp; done) | (simp; omega))]; simp [go_sem, *]
  have k16_1_0 : w16.cell? ⟨w3.heap.size, 0, none⟩ = some (.bool rs0) := by rw [(bxcell b16).1 _ _ (by first | omega | (simp; done) | (simp; omega))]; simp [go_sem, *]
  have k16_1_1 : w16.cell? ⟨w3.heap.size, 1, none⟩ = some (.slice A3 n3 c3) := by rw [(bxcell b16).1 _ _ (by first | omega | (simp; done) | (simp; omega))]; simp [go_sem, *]
  have k16_1_2 : w16.cell? ⟨w3.heap.size, 2, none⟩ = some (.slice B3 m3 d3) := by rw [(bxcell b16).1 _ _ (by first | omega | (simp; done) | (simp; omega))]; simp [go_sem, *]
  have k16_2_0 : w16.cell? ⟨w4.heap.size, 0, none⟩ = some (.bool s0) := by rw [(bxcell b16).1 _ _ (by first | omega | (simp; done) | (simp; omega))]; simp [go_sem, *]
  have k16_2_1 : w16.cell? ⟨w4.heap.size, 1, none⟩ = some (.slice A4 n4 c4) := by rw [(bxcell b16).1 _ _ (by first | omega | (simp; done) | (simp; omega))]; simp [go_sem, *]
  have k16_2_2 : w16.cell? ⟨w4.heap.size, 2, none⟩ = some (.slice B4 m4 d4) := by rw [(bxcell b16).1 _ _ (by first | omega | (simp; done) | (simp; omega))]; simp [go_sem, *]
  have k16_3_0 : w16.cell? ⟨w5.heap.size, 0, none⟩ = some (.bool rs0) := by rw [(bxcell b16).1 _ _ (by first | omega | (simp; done) | (simp; omega))]; simp [go_sem, *]
  have k16_3_1 : w16.cell? ⟨w5.heap.size, 1, none⟩ = some (.slice A5 n5 c5) := by rw [(bxcell b16).1 _ _ (by first | omega | (simp; done) | (simp; omega))]; simp [go_sem, *]
  have k16_3_2 : w16.cell? ⟨w5.heap.size, 2, none⟩ = some (.slice B5 m5 d5) := by rw [(bxcell b16).1 _ _ (by first | omega | (simp; done) | (simp; omega))]; simp [go_sem, *]
  have k16_4_0 : w16.cell? ⟨w14.heap.size, 0, none⟩ = some (.bool rs0) := by rw [(bxcell b16).1 _ _ (by first | omega | (simp; done) | (simp; omega))]; simp [go_sem, *]
  have k16_4_1 : w16.cell? ⟨w14.heap.size, 1, none⟩ = some (.slice A14 n14 c14) := by rw [(bxcell b16).1 _ _ (by first | omega | (simp; done) | (simp; omega))]; simp [go_sem, *]
  have k16_4_2 : w16.cell? ⟨w14.heap.size, 2, none⟩ = some (.slice B14 m14 d14) := by rw [(bxcell b16).1 _ _ (by first | omega | (simp; done) | (simp; omega))]; simp [go_sem, *]
  clear k15_0_0 k15_0_1 k15_0_2 k15_1_0 k15_1_1 k15_1_2 k15_2_0 k15_2_1 k15_2_2 k15_3_0 k15_3_1 k15_3_2 k15_4_0 k15_4_1 k15_4_2 y15_0 y15_1 y15_2 y15_3 y15_4
  go_wp2
  go_ret
  exact ⟨rfl, (by repeat' (first | (with_reducible exact Below.refl _ _) | (with_reducible refine Below.alloc ?_ ?_ _) | (with_reducible refine Below.setCell ?_ ?_ _) | (with_reducible refine below_drewN ?_ _) | (with_reducible refine Below.drew ?_) | (with_reducible refine below_step (by assumption) ?_ ?_) | omega | (simp; done) | (simp; omega)))⟩
theorem fnExactRatNeg.own : ownKnob Try.prog.godebug = none := by kernel_rfl
theorem fnExactRatNeg.laidOut : laidOutB Try.prog = true := by kernel_rfl
set_option linter.unusedVariables false in
set_option maxRecDepth 100000 in
theorem fnExactRatNeg.lifted (os : Os) (started : os.Started) (H : Type) (enc : TypeId × Value → H) :
    ReturnsInHanded {} Try.checked os 9 .any (Rows.fnExactRatNegSpec.pre6 enc Try.prog Try.f9 Rows.fnExactRatNegRow.domain false) (Rows.fnExactRatNegSpec.post enc Try.prog Try.f9 false true false false) := by
  refine returnsInHanded_of_change (C := Try.checked) fnExactRatNeg.own started (by kernel_rfl) Try.func9
    (ChangeSpec.witness6 (enc := enc) (C := Try.checked) false ⟨#[], #[.agg #[.bool false, .slice none 0 0, .slice none 0 0]], []⟩ 8 (by kernel_rfl) (by kernel_rfl) (by kernel_rfl) (by kernel_rfl)) ?_
  intro W base args ds gs before hval0 hW hcnd _
  have hval : ∀ (j : Nat) t v, Try.f9.params[j]? = some t → args[j]? = some v → Value.okWide Try.prog W .any base t v := hval0
  have hW' := hW
  obtain ⟨p, q, hA0, hV, rfl, hfz, hnd⟩ := hW
  have hA : DataW.TrodAll enc Try.prog W 0 (fun _ => true) true Try.f9.params.toList args.toList ds p := hA0
  rw [Try.params9] at hA hval
  obtain ⟨v0, vs0, d0, ds0, p0, q0, hargs, rfl, rfl, h0, r0⟩ := trodAll_cons hA
  obtain ⟨rfl, rfl, rfl⟩ := trodAll_nil r0
  obtain rfl : args = #[v0] := by cases args; simp_all
  obtain ⟨rfl, rfl⟩ := trodVars_none hV
  have k0 := h0
  have lt0 : ∀ x ∈ p0, x.block < W.heap.size := by obtain ⟨m, hm⟩ := k0; exact DataW.trod_lt m _ _ _ hm
  obtain ⟨n0, u0, x0, t0, y0, rfl, s0, f0, z0, g0⟩ := open_ratL Try.underlying37 (by kernel_rfl) rfl rfl rfl rfl (by kernel_rfl) Try.underlying24 (by kernel_rfl) rfl rfl rfl rfl (by kernel_rfl) Try.underlying4 Try.underlying22 Try.underlying3 (by kernel_rfl) (hval 0 37 v0 rfl rfl) h0
  clear hA0 hval0
  refine (walk_FnExactRatNeg W n0 u0 x0 t0 y0 s0 f0 z0 g0).mono fun e W' ⟨he, bel⟩ => ?_
  subst he
  exact ⟨_, rfl, _, _, _, [], _, [], hW', trodAll_mk1 (shut_bool Try.underlying4 _), (trodAll_cons_mk (Below.trod fnExactRatNeg.laidOut (by kernel_rfl) (of_decide_eq_true (by kernel_rfl)) k0 bel lt0) trodAll_mk0), rfl, bel.frame _, fun h => by cases h⟩
theorem fnExactRatNeg.over : Rows.fnExactRatNegRow.holds Try.pinned (OpenSpec.ofChange Rows.fnExactRatNegSpec) :=
  OpenClaim.holds_of_wide 9 Try.f9 rfl rfl rfl rfl rfl rfl rfl ⟨rfl, rfl, rfl, rfl, rfl⟩ rfl rfl rfl rfl rfl (by kernel_rfl) Try.func9 (by kernel_rfl)
    (of_decide_eq_true (by kernel_rfl)) (by unfold Func.isWrapper; first | (rw [if_pos (by decide +kernel)]; kernel_rfl) | (rw [if_neg (by decide +kernel)]; exact ⟨rfl, rfl⟩))
    (fun os started H enc _ => fnExactRatNeg.lifted os started H enc)
/-- THE STATEMENT. -/
theorem fnExactRatNeg_holds : Rows.FnExactRatNegSaid := fnExactRatNeg.over
#print axioms fnExactRatNeg_holds
end Go.Proofs.Ytglhddfdjopbdaa
