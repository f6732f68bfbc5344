/-
  FnExactBigIntFloorDiv, proved: for every big int and every list of ints the law returns true. No further condition. Written by an AI agent.
-/
import Derived.Test.YthbpdlmcpgegpaaBigFD
import Derived.Test.YthbpdlmcpgegpaaOpen
import Derived.Test.YthbpdlmcpgegpaaBox
import Derived.Deep.RegionHeld3
import Derived.Deep.DeepCutAuto
namespace Go.Proofs.Ythbpdlmcpgegpaa
open Go.ChangeShapes Go.WideShapes Go.ChangeAt Go.RowKit

set_option maxRecDepth 100000 in
set_option maxHeartbeats 8000000 in
theorem walk_FnExactBigIntFloorDiv (w : World) (s0 : Bool) (v0 : Value) (xs : List Int) (h0 : Sl w v0 xs) (_f0 : Wf xs) (v1 : Value) (ms : List Int) (h1 : Sl w v1 ms) (_f1 : Wf ms) :
    Calls Try.prog 4 #[.agg #[.bool s0, v0], v1] w fun e w' => e = .returned (.bool true) ∧ Below w.heap.size w w' := by
  have S0 := Lib.hid h0
  clear _f0
  obtain ⟨A0, c0, rfl, p1, p2, p3⟩ := h0
  have hm0 : xs.length ≤ 9223372036854775807 := by unfold maxLen at p2; omega
  clear p1 p2 p3
  have S1 := Lib.hid h1
  clear _f1
  obtain ⟨A1, c1, rfl, p1, p2, p3⟩ := h1
  have hm1 : ms.length ≤ 9223372036854775807 := by unfold maxLen at p2; omega
  clear p1 p2 p3
  obtain ⟨rs0, hr⟩ : ∃ x, x = decide ((bigFloorF s0 xs ms).1 < 0) := ⟨_, rfl⟩
  have X0 := Lib.hid hr
  clear hr
  obtain ⟨rs1, hr⟩ : ∃ x, x = toL (bigFloorF s0 xs ms).1.natAbs := ⟨_, rfl⟩
  have hl1 : rs1.length ≤ 2000000 := by rw [hr]; exact (floor_len s0 xs ms).1
  have X1 := Lib.hid hr
  clear hr
  obtain ⟨rs2, hr⟩ : ∃ x, x = toL (bigFloorF s0 xs ms).2 := ⟨_, rfl⟩
  have hl2 : rs2.length ≤ 2000000 := by rw [hr]; exact (floor_len s0 xs ms).2
  have X2 := Lib.hid hr
  clear hr
  by_cases hbig1 : 1048576 < ms.length
  · go_enter Try.func4, Try.ntmps4
    go_wp2
    go_ret
    exact ⟨rfl, (by repeat' (first | (with_reducible exact Below.refl _ _) | (with_reducible refine Below.alloc ?_ ?_ _) | (with_reducible refine Below.setCell ?_ ?_ _) | (with_reducible refine below_drewN ?_ _) | (with_reducible refine Below.drew ?_) | (with_reducible refine below_step (by assumption) ?_ ?_) | omega | (simp; done) | (simp; omega)))⟩
  go_enter Try.func4, Try.ntmps4
  go_wp2_with fail
  (with_reducible refine (laws_szBigR s0 A0 xs.length c0 (1048576) _ hm0 (by omega) (by omega)).mono ?_)
  rintro e w1 ⟨t1, rfl, ht1, b1⟩
  rcases ht1 with rfl | ⟨ha1, hb1⟩
  · go_wp2
    go_ret
    exact ⟨rfl, (by repeat' (first | (with_reducible exact Below.refl _ _) | (with_reducible refine Below.alloc ?_ ?_ _) | (with_reducible refine Below.setCell ?_ ?_ _) | (with_reducible refine below_drewN ?_ _) | (with_reducible refine Below.drew ?_) | (with_reducible refine below_step (by assumption) ?_ ?_) | omega | (simp; done) | (simp; omega)))⟩
  have z1 := b1.size
  (try simp at z1)
  have y1_0 : w.heap.size < w1.heap.size := by omega
  have k1_0_0 : w1.cell? ⟨w.heap.size, 0, none⟩ = some (.bool s0) := by rw [(bxcell b1).1 _ _ (by first | omega | (simp; done) | (simp; omega))]; simp [go_sem, *]
  have k1_0_1 : w1.cell? ⟨w.heap.size, 1, none⟩ = some (.slice A0 xs.length c0) := by rw [(bxcell b1).1 _ _ (by first | omega | (simp; done) | (simp; omega))]; simp [go_sem, *]
  go_wp2_with fail
  (with_reducible refine (laws_toBigInt s0 A0 _ c0 xs _ (S0.out.below (by repeat' (first | (with_reducible exact Below.refl _ _) | (with_reducible refine Below.alloc ?_ ?_ _) | (with_reducible refine Below.setCell ?_ ?_ _) | (with_reducible refine below_drewN ?_ _) | (with_reducible refine Below.drew ?_) | (with_reducible refine below_step (by assumption) ?_ ?_) | omega | (simp; done) | (simp; omega)))) (by omega)).mono ?_)
  rintro e w2 ⟨A2, n2, c2, rfl, o2, b2⟩
  have O2 := OwnR.wide (OwnR.of o2) (lo' := w1.heap.size) (by first | omega | (simp; done) | (simp; omega)) (Nat.le_refl _)
  clear o2
  have z2 := b2.size
  (try simp at z2)
  have y2_0 : w.heap.size < w2.heap.size := by omega
  have k2_0_0 : w2.cell? ⟨w.heap.size, 0, none⟩ = some (.bool s0) := by rw [(bxcell b2).1 _ _ (by first | omega | (simp; done) | (simp; omega))]; simp [go_sem, *]
  have k2_0_1 : w2.cell? ⟨w.heap.size, 1, none⟩ = some (.slice A0 xs.length c0) := by rw [(bxcell b2).1 _ _ (by first | omega | (simp; done) | (simp; omega))]; simp [go_sem, *]
  clear k1_0_0 k1_0_1 y1_0
  go_wp2_with fail
  (with_reducible refine (laws_toIntS _ ms _ (S1.out.below (by repeat' (first | (with_reducible exact Below.refl _ _) | (with_reducible refine Below.alloc ?_ ?_ _) | (with_reducible refine Below.setCell ?_ ?_ _) | (with_reducible refine below_drewN ?_ _) | (with_reducible refine Below.drew ?_) | (with_reducible refine below_step (by assumption) ?_ ?_) | omega | (simp; done) | (simp; omega)))) (by omega)).mono ?_)
  rintro e w3 ⟨r3, rfl, o3, b3⟩
  have O3 := OwnR.wide (OwnR.of o3) (lo' := w2.heap.size) (by first | omega | (simp; done) | (simp; omega)) (Nat.le_refl _)
  clear o3
  have z3 := b3.size
  (try simp at z3)
  have y3_0 : w.heap.size < w3.heap.size := by omega
  have k3_0_0 : w3.cell? ⟨w.heap.size, 0, none⟩ = some (.bool s0) := by rw [(bxcell b3).1 _ _ (by first | omega | (simp; done) | (simp; omega))]; simp [go_sem, *]
  have k3_0_1 : w3.cell? ⟨w.heap.size, 1, none⟩ = some (.slice A0 xs.length c0) := by rw [(bxcell b3).1 _ _ (by first | omega | (simp; done) | (simp; omega))]; simp [go_sem, *]
  clear k2_0_0 k2_0_1 y2_0
  go_wp2_with fail
  (with_reducible refine (spec_FloorV s0 _ _ _ _ xs ms _ (OwnR.here O2 (by repeat' (first | (with_reducible exact Below.refl _ _) | (with_reducible refine Below.alloc ?_ ?_ _) | (with_reducible refine Below.setCell ?_ ?_ _) | (with_reducible refine below_drewN ?_ _) | (with_reducible refine Below.drew ?_) | (with_reducible refine below_step (by assumption) ?_ ?_) | omega | (simp; done) | (simp; omega)))).sl (OwnR.here O3 (by repeat' (first | (with_reducible exact Below.refl _ _) | (with_reducible refine Below.alloc ?_ ?_ _) | (with_reducible refine Below.setCell ?_ ?_ _) | (with_reducible refine below_drewN ?_ _) | (with_reducible refine Below.drew ?_) | (with_reducible refine below_step (by assumption) ?_ ?_) | omega | (simp; done) | (simp; omega)))).sl).mono ?_)
  rintro e w4 ⟨A4, n4, c4, v4, lo4, hi4, lp4, hp4, rfl, O4, P4, ea4, eb4, ed4, ee4, ef4, b4⟩
  rw [← X0.out]
  rw [← X1.out] at O4
  rw [← X2.out] at P4
  have z4 := b4.size
  (try simp at z4)
  have y4_0 : w.heap.size < w4.heap.size := by omega
  have k4_0_0 : w4.cell? ⟨w.heap.size, 0, none⟩ = some (.bool s0) := by rw [(bxcell b4).1 _ _ (by first | omega | (simp; done) | (simp; omega))]; simp [go_sem, *]
  have k4_0_1 : w4.cell? ⟨w.heap.size, 1, none⟩ = some (.slice A0 xs.length c0) := by rw [(bxcell b4).1 _ _ (by first | omega | (simp; done) | (simp; omega))]; simp [go_sem, *]
  clear k3_0_0 k3_0_1 y3_0
  go_wp2_with fail
  (with_reducible refine (laws_toBigInt s0 A0 _ c0 xs _ (S0.out.below (by repeat' (first | (with_reducible exact Below.refl _ _) | (with_reducible refine Below.alloc ?_ ?_ _) | (with_reducible refine Below.setCell ?_ ?_ _) | (with_reducible refine below_drewN ?_ _) | (with_reducible refine Below.drew ?_) | (with_reducible refine below_step (by assumption) ?_ ?_) | omega | (simp; done) | (simp; omega)))) (by omega)).mono ?_)
  rintro e w5 ⟨A5, n5, c5, rfl, o5, b5⟩
  have O5 := OwnR.wide (OwnR.of o5) (lo' := w4.heap.size + 1) (by first | omega | (simp; done) | (simp; omega)) (Nat.le_refl _)
  clear o5
  have z5 := b5.size
  (try simp at z5)
  have y5_0 : w.heap.size < w5.heap.size := by omega
  have y5_1 : w4.heap.size < w5.heap.size := by omega
  have k5_0_0 : w5.cell? ⟨w.heap.size, 0, none⟩ = some (.bool s0) := by rw [(bxcell b5).1 _ _ (by first | omega | (simp; done) | (simp; omega))]; simp [go_sem, *]
  have k5_0_1 : w5.cell? ⟨w.heap.size, 1, none⟩ = some (.slice A0 xs.length c0) := by rw [(bxcell b5).1 _ _ (by first | omega | (simp; done) | (simp; omega))]; simp [go_sem, *]
  have k5_1_0 : w5.cell? ⟨w4.heap.size, 0, none⟩ = some (.bool rs0) := by rw [(bxcell b5).1 _ _ (by first | omega | (simp; done) | (simp; omega))]; simp [go_sem, *]
  have k5_1_1 : w5.cell? ⟨w4.heap.size, 1, none⟩ = some (.slice A4 n4 c4) := by rw [(bxcell b5).1 _ _ (by first | omega | (simp; done) | (simp; omega))]; simp [go_sem, *]
  clear k4_0_0 k4_0_1 y4_0
  go_wp2_with fail
  (with_reducible refine (laws_toIntS _ ms _ (S1.out.below (by repeat' (first | (with_reducible exact Below.refl _ _) | (with_reducible refine Below.alloc ?_ ?_ _) | (with_reducible refine Below.setCell ?_ ?_ _) | (with_reducible refine below_drewN ?_ _) | (with_reducible refine Below.drew ?_) | (with_reducible refine below_step (by assumption) ?_ ?_) | omega | (simp; done) | (simp; omega)))) (by omega)).mono ?_)
  rintro e w6 ⟨r6, rfl, o6, b6⟩
  have O6 := OwnR.wide (OwnR.of o6) (lo' := w5.heap.size + 1) (by first | omega | (simp; done) | (simp; omega)) (Nat.le_refl _)
  clear o6
  have z6 := b6.size
  (try simp at z6)
  have y6_0 : w.heap.size < w6.heap.size := by omega
  have y6_1 : w4.heap.size < w6.heap.size := by omega
  have y6_2 : w5.heap.size < w6.heap.size := by omega
  have k6_0_0 : w6.cell? ⟨w.heap.size, 0, none⟩ = some (.bool s0) := by rw [(bxcell b6).1 _ _ (by first | omega | (simp; done) | (simp; omega))]; simp [go_sem, *]
  have k6_0_1 : w6.cell? ⟨w.heap.size, 1, none⟩ = some (.slice A0 xs.length c0) := by rw [(bxcell b6).1 _ _ (by first | omega | (simp; done) | (simp; omega))]; simp [go_sem, *]
  have k6_1_0 : w6.cell? ⟨w4.heap.size, 0, none⟩ = some (.bool rs0) := by rw [(bxcell b6).1 _ _ (by first | omega | (simp; done) | (simp; omega))]; simp [go_sem, *]
  have k6_1_1 : w6.cell? ⟨w4.heap.size, 1, none⟩ = some (.slice A4 n4 c4) := by rw [(bxcell b6).1 _ _ (by first | omega | (simp; done) | (simp; omega))]; simp [go_sem, *]
  have k6_2_0 : w6.cell? ⟨w5.heap.size, 0, none⟩ = some (.bool s0) := by rw [(bxcell b6).1 _ _ (by first | omega | (simp; done) | (simp; omega))]; simp [go_sem, *]
  have k6_2_1 : w6.cell? ⟨w5.heap.size, 1, none⟩ = some (.slice A5 n5 c5) := by rw [(bxcell b6).1 _ _ (by first | omega | (simp; done) | (simp; omega))]; simp [go_sem, *]
  clear k5_0_0 k5_0_1 k5_1_0 k5_1_1 y5_0 y5_1
  go_wp2_with fail
  (with_reducible refine (impl_FloorV s0 _ _ _ _ xs ms _ (OwnR.here O5 (by repeat' (first | (with_reducible exact Below.refl _ _) | (with_reducible refine Below.alloc ?_ ?_ _) | (with_reducible refine Below.setCell ?_ ?_ _) | (with_reducible refine below_drewN ?_ _) | (with_reducible refine Below.drew ?_) | (with_reducible refine below_step (by assumption) ?_ ?_) | omega | (simp; done) | (simp; omega)))).sl (OwnR.here O6 (by repeat' (first | (with_reducible exact Below.refl _ _) | (with_reducible refine Below.alloc ?_ ?_ _) | (with_reducible refine Below.setCell ?_ ?_ _) | (with_reducible refine below_drewN ?_ _) | (with_reducible refine Below.drew ?_) | (with_reducible refine below_step (by assumption) ?_ ?_) | omega | (simp; done) | (simp; omega)))).sl).mono ?_)
  rintro e w7 ⟨A7, n7, c7, v7, lo7, hi7, lp7, hp7, rfl, O7, P7, ea7, eb7, ed7, ee7, ef7, b7⟩
  rw [← X0.out]
  rw [← X1.out] at O7
  rw [← X2.out] at P7
  have z7 := b7.size
  (try simp at z7)
  have y7_0 : w.heap.size < w7.heap.size := by omega
  have y7_1 : w4.heap.size < w7.heap.size := by omega
  have y7_2 : w5.heap.size < w7.heap.size := by omega
  have k7_0_0 : w7.cell? ⟨w.heap.size, 0, none⟩ = some (.bool s0) := by rw [(bxcell b7).1 _ _ (by first | omega | (simp; done) | (simp; omega))]; simp [go_sem, *]
  have k7_0_1 : w7.cell? ⟨w.heap.size, 1, none⟩ = some (.slice A0 xs.length c0) := by rw [(bxcell b7).1 _ _ (by first | omega | (simp; done) | (simp; omega))]; simp [go_sem, *]
  have k7_1_0 : w7.cell? ⟨w4.heap.size, 0, none⟩ = some (.bool rs0) := by rw [(bxcell b7).1 _ _ (by first | omega | (simp; done) | (simp; omega))]; simp [go_sem, *]
  have k7_1_1 : w7.cell? ⟨w4.heap.size, 1, none⟩ = some (.slice A4 n4 c4) := by rw [(bxcell b7).1 _ _ (by first | omega | (simp; done) | (simp; omega))]; simp [go_sem, *]
  have k7_2_0 : w7.cell? ⟨w5.heap.size, 0, none⟩ = some (.bool s0) := by rw [(bxcell b7).1 _ _ (by first | omega | (simp; done) | (simp; omega))]; simp [go_sem, *]
  have k7_2_1 : w7.cell? ⟨w5.heap.size, 1, none⟩ = some (.slice A5 n5 c5) := by rw [(bxcell b7).1 _ _ (by first | omega | (simp; done) | (simp; omega))]; simp [go_sem, *]
  clear k6_0_0 k6_0_1 k6_1_0 k6_1_1 k6_2_0 k6_2_1 y6_0 y6_1 y6_2
  go_wp2_with fail
  (with_reducible refine (eqBig rs0 _ _ _ _ _ _ rs1 _ (OwnR.here O7 (by repeat' (first | (with_reducible exact Below.refl _ _) | (with_reducible refine Below.alloc ?_ ?_ _) | (with_reducible refine Below.setCell ?_ ?_ _) | (with_reducible refine below_drewN ?_ _) | (with_reducible refine Below.drew ?_) | (with_reducible refine below_step (by assumption) ?_ ?_) | omega | (simp; done) | (simp; omega)))).sl (OwnR.here O4 (by repeat' (first | (with_reducible exact Below.refl _ _) | (with_reducible refine Below.alloc ?_ ?_ _) | (with_reducible refine Below.setCell ?_ ?_ _) | (with_reducible refine below_drewN ?_ _) | (with_reducible refine Below.drew ?_) | (with_reducible refine below_step (by assumption) ?_ ?_) | omega | (simp; done) | (simp; omega)))).sl).mono ?_)
  rintro e w8 ⟨rfl, b8⟩
  have z8 := b8.size
  (try simp at z8)
  have y8_0 : w.heap.size < w8.heap.size := by omega
  have y8_1 : w4.heap.size < w8.heap.size := by omega
  have y8_2 : w5.heap.size < w8.heap.size := by omega
  have y8_3 : w7.heap.size < w8.heap.size := by omega
  have k8_0_0 : w8.cell? ⟨w.heap.size, 0, none⟩ = some (.bool s0) := by rw [(bxcell b8).1 _ _ (by first | omega | (simp; done) | (simp; omega))]; simp [go_sem, *]
  have k8_0_1 : w8.cell? ⟨w.heap.size, 1, none⟩ = some (.slice A0 xs.length c0) := by rw [(bxcell b8).1 _ _ (by first | omega | (simp; done) | (simp; omega))]; simp [go_sem, *]
  have k8_1_0 : w8.cell? ⟨w4.heap.size, 0, none⟩ = some (.bool rs0) := by rw [(bxcell b8).1 _ _ (by first | omega | (simp; done) | (simp; omega))]; simp [go_sem, *]
  have k8_1_1 : w8.cell? ⟨w4.heap.size, 1, none⟩ = some (.slice A4 n4 c4) := by rw [(bxcell b8).1 _ _ (by first | omega | (simp; done) | (simp; omega))]; simp [go_sem, *]
  have k8_2_0 : w8.cell? ⟨w5.heap.size, 0, none⟩ = some (.bool s0) := by rw [(bxcell b8).1 _ _ (by first | omega | (simp; done) | (simp; omega))]; simp [go_sem, *]
  have k8_2_1 : w8.cell? ⟨w5.heap.size, 1, none⟩ = some (.slice A5 n5 c5) := by rw [(bxcell b8).1 _ _ (by first | omega | (simp; done) | (simp; omega))]; simp [go_sem, *]
  have k8_3_0 : w8.cell? ⟨w7.heap.size, 0, none⟩ = some (.bool rs0) := by rw [(bxcell b8).1 _ _ (by first | omega | (simp; done) | (simp; omega))]; simp [go_sem, *]
  have k8_3_1 : w8.cell? ⟨w7.heap.size, 1, none⟩ = some (.slice A7 n7 c7) := by rw [(bxcell b8).1 _ _ (by first | omega | (simp; done) | (simp; omega))]; simp [go_sem, *]
  clear k7_0_0 k7_0_1 k7_1_0 k7_1_1 k7_2_0 k7_2_1 y7_0 y7_1 y7_2
  go_wp2_with fail
  (with_reducible refine (eqInts _ _ rs2 _ (OwnR.here P7 (by repeat' (first | (with_reducible exact Below.refl _ _) | (with_reducible refine Below.alloc ?_ ?_ _) | (with_reducible refine Below.setCell ?_ ?_ _) | (with_reducible refine below_drewN ?_ _) | (with_reducible refine Below.drew ?_) | (with_reducible refine below_step (by assumption) ?_ ?_) | omega | (simp; done) | (simp; omega)))).sl (OwnR.here P4 (by repeat' (first | (with_reducible exact Below.refl _ _) | (with_reducible refine Below.alloc ?_ ?_ _) | (with_reducible refine Below.setCell ?_ ?_ _) | (with_reducible refine below_drewN ?_ _) | (with_reducible refine Below.drew ?_) | (with_reducible refine below_step (by assumption) ?_ ?_) | omega | (simp; done) | (simp; omega)))).sl).mono ?_)
  rintro e w9 ⟨rfl, b9⟩
  have z9 := b9.size
  (try simp at z9)
  have y9_0 : w.heap.size < w9.heap.size := by omega
  have y9_1 : w4.heap.size < w9.heap.size := by omega
  have y9_2 : w5.heap.size < w9.heap.size := by omega
  have y9_3 : w7.heap.size < w9.heap.size := by omega
  have k9_0_0 : w9.cell? ⟨w.heap.size, 0, none⟩ = some (.bool s0) := by rw [(bxcell b9).1 _ _ (by first | omega | (simp; done) | (simp; omega))]; simp [go_sem, *]
  have k9_0_1 : w9.cell? ⟨w.heap.size, 1, none⟩ = some (.slice A0 xs.length c0) := by rw [(bxcell b9).1 _ _ (by first | omega | (simp; done) | (simp; omega))]; simp [go_sem, *]
  have k9_1_0 : w9.cell? ⟨w4.heap.size, 0, none⟩ = some (.bool rs0) := by rw [(bxcell b9).1 _ _ (by first | omega | (simp; done) | (simp; omega))]; simp [go_sem, *]
  have k9_1_1 : w9.cell? ⟨w4.heap.size, 1, none⟩ = some (.slice A4 n4 c4) := by rw [(bxcell b9).1 _ _ (by first | omega | (simp; done) | (simp; omega))]; simp [go_sem, *]
  have k9_2_0 : w9.cell? ⟨w5.heap.size, 0, none⟩ = some (.bool s0) := by rw [(bxcell b9).1 _ _ (by first | omega | (simp; done) | (simp; omega))]; simp [go_sem, *]
  have k9_2_1 : w9.cell? ⟨w5.heap.size, 1, none⟩ = some (.slice A5 n5 c5) := by rw [(bxcell b9).1 _ _ (by first | omega | (simp; done) | (simp; omega))]; simp [go_sem, *]
  have k9_3_0 : w9.cell? ⟨w7.heap.size, 0, none⟩ = some (.bool rs0) := by rw [(bxcell b9).1 _ _ (by first | omega | (simp; done) | (simp; omega))]; simp [go_sem, *]
  have k9_3_1 : w9.cell? ⟨w7.heap.size, 1, none⟩ = some (.slice A7 n7 c7) := by rw [(bxcell b9).1 _ _ (by first | omega | (simp; done) | (simp; omega))]; simp [go_sem, *]
  clear k8_0_0 k8_0_1 k8_1_0 k8_1_1 k8_2_0 k8_2_1 k8_3_0 k8_3_1 y8_0 y8_1 y8_2 y8_3
  go_wp2_with fail
  go_region_held3 (fun w' => w'.cell? ⟨w5.heap.size, 0, none⟩ = some (.bool s0) ∧ w'.cell? ⟨w5.heap.size, 1, none⟩ = some (.slice A5 n5 c5) ∧ w'.cell? ⟨w.heap.size, 0, none⟩ = some (.bool s0) ∧ w'.cell? ⟨w.heap.size, 1, none⟩ = some (.slice A0 xs.length c0)) (go_keep)
    (first
      | (go_at_call 20; (with_reducible refine (laws_toBigInt s0 A0 _ c0 xs _ (S0.out.below (by repeat' (first | (with_reducible exact Below.refl _ _) | (with_reducible refine Below.alloc ?_ ?_ _) | (with_reducible refine Below.setCell ?_ ?_ _) | (with_reducible refine below_drewN ?_ _) | (with_reducible refine Below.drew ?_) | (with_reducible refine below_step (by assumption) ?_ ?_) | omega | (simp; done) | (simp; omega)))) (by omega)).mono ?_); rintro e w10 ⟨A10, n10, c10, rfl, o10, b10⟩; obtain ⟨hc10, hf10⟩ := bxcell b10; have q10_0 := fun o => hc10 (w.heap.size) o (by first | omega | (simp; done) | (simp; omega)); have q10_1 := fun o => hc10 (w4.heap.size) o (by first | omega | (simp; done) | (simp; omega)); have q10_2 := fun o => hc10 (w5.heap.size) o (by first | omega | (simp; done) | (simp; omega)); have q10_3 := fun o => hc10 (w7.heap.size) o (by first | omega | (simp; done) | (simp; omega)); have z10 := b10.size; (try simp at z10); have ya10_0 : w.heap.size < w10.heap.size := (by omega); have yb10_0 := Nat.ne_of_lt ya10_0; have yc10_0 := (Nat.ne_of_lt ya10_0).symm; have ya10_1 : w4.heap.size < w10.heap.size := (by omega); have yb10_1 := Nat.ne_of_lt ya10_1; have yc10_1 := (Nat.ne_of_lt ya10_1).symm; have ya10_2 : w5.heap.size < w10.heap.size := (by omega); have yb10_2 := Nat.ne_of_lt ya10_2; have yc10_2 := (Nat.ne_of_lt ya10_2).symm; have ya10_3 : w7.heap.size < w10.heap.size := (by omega); have yb10_3 := Nat.ne_of_lt ya10_3; have yc10_3 := (Nat.ne_of_lt ya10_3).symm; have O10 := OwnR.wide (OwnR.of o10) (lo' := w9.heap.size) (by first | omega | (simp; done) | (simp; omega)) (Nat.le_refl _); clear o10)
      | (go_at_call 23; (with_reducible refine (eqBig s0 _ _ _ _ _ _ xs _ (OwnR.here O5 (by repeat' (first | (with_reducible exact Below.refl _ _) | (with_reducible refine Below.alloc ?_ ?_ _) | (with_reducible refine Below.setCell ?_ ?_ _) | (with_reducible refine below_drewN ?_ _) | (with_reducible refine Below.drew ?_) | (with_reducible refine below_step (by assumption) ?_ ?_) | omega | (simp; done) | (simp; omega)))).sl (OwnR.here O10 (by repeat' (first | (with_reducible exact Below.refl _ _) | (with_reducible refine Below.alloc ?_ ?_ _) | (with_reducible refine Below.setCell ?_ ?_ _) | (with_reducible refine below_drewN ?_ _) | (with_reducible refine Below.drew ?_) | (with_reducible refine below_step (by assumption) ?_ ?_) | omega | (simp; done) | (simp; omega)))).sl).mono ?_); rintro e w11 ⟨rfl, b11⟩; obtain ⟨hc11, hf11⟩ := bxcell b11; have q11_0 := fun o => hc11 (w.heap.size) o (by first | omega | (simp; done) | (simp; omega)); have q11_1 := fun o => hc11 (w4.heap.size) o (by first | omega | (simp; done) | (simp; omega)); have q11_2 := fun o => hc11 (w5.heap.size) o (by first | omega | (simp; done) | (simp; omega)); have q11_3 := fun o => hc11 (w7.heap.size) o (by first | omega | (simp; done) | (simp; omega)); have z11 := b11.size; (try simp at z11); have ya11_0 : w.heap.size < w11.heap.size := (by omega); have yb11_0 := Nat.ne_of_lt ya11_0; have yc11_0 := (Nat.ne_of_lt ya11_0).symm; have ya11_1 : w4.heap.size < w11.heap.size := (by omega); have yb11_1 := Nat.ne_of_lt ya11_1; have yc11_1 := (Nat.ne_of_lt ya11_1).symm; have ya11_2 : w5.heap.size < w11.heap.size := (by omega); have yb11_2 := Nat.ne_of_lt ya11_2; have yc11_2 := (Nat.ne_of_lt ya11_2).symm; have ya11_3 : w7.heap.size < w11.heap.size := (by omega); have yb11_3 := Nat.ne_of_lt ya11_3; have yc11_3 := (Nat.ne_of_lt ya11_3).symm))
  have z11 := b11.size
  (try simp at z11)
  have y11_0 : w.heap.size < w11.heap.size := by omega
  have y11_1 : w4.heap.size < w11.heap.size := by omega
  have y11_2 : w5.heap.size < w11.heap.size := by omega
  have y11_3 : w7.heap.size < w11.heap.size := by omega
  have k11_0_0 : w11.cell? ⟨w.heap.size, 0, none⟩ = some (.bool s0) := by rw [(bxcell b11).1 _ _ (by first | omega | (simp; done) | (simp; omega))]; simp [go_sem, *]
  have k11_0_1 : w11.cell? ⟨w.heap.size, 1, none⟩ = some (.slice A0 xs.length c0) := by rw [(bxcell b11).1 _ _ (by first | omega | (simp; done) | (simp; omega))]; simp [go_sem, *]
  have k11_1_0 : w11.cell? ⟨w4.heap.size, 0, none⟩ = some (.bool rs0) := by rw [(bxcell b11).1 _ _ (by first | omega | (simp; done) | (simp; omega))]; simp [go_sem, *]
  have k11_1_1 : w11.cell? ⟨w4.heap.size, 1, none⟩ = some (.slice A4 n4 c4) := by rw [(bxcell b11).1 _ _ (by first | omega | (simp; done) | (simp; omega))]; simp [go_sem, *]
  have k11_2_0 : w11.cell? ⟨w5.heap.size, 0, none⟩ = some (.bool s0) := by rw [(bxcell b11).1 _ _ (by first | omega | (simp; done) | (simp; omega))]; simp [go_sem, *]
  have k11_2_1 : w11.cell? ⟨w5.heap.size, 1, none⟩ = some (.slice A5 n5 c5) := by rw [(bxcell b11).1 _ _ (by first | omega | (simp; done) | (simp; omega))]; simp [go_sem, *]
  have k11_3_0 : w11.cell? ⟨w7.heap.size, 0, none⟩ = some (.bool rs0) := by rw [(bxcell b11).1 _ _ (by first | omega | (simp; done) | (simp; omega))]; simp [go_sem, *]
  have k11_3_1 : w11.cell? ⟨w7.heap.size, 1, none⟩ = some (.slice A7 n7 c7) := by rw [(bxcell b11).1 _ _ (by first | omega | (simp; done) | (simp; omega))]; simp [go_sem, *]
  clear k9_0_0 k9_0_1 k9_1_0 k9_1_1 k9_2_0 k9_2_1 k9_3_0 k9_3_1 y9_0 y9_1 y9_2 y9_3 hc10 hf10 q10_0 q10_1 q10_2 q10_3 yb10_0 yc10_0 yb10_1 yc10_1 yb10_2 yc10_2 yb10_3 yc10_3 hc11 hf11 q11_0 q11_1 q11_2 q11_3 yb11_0 yc11_0 yb11_1 yc11_1 yb11_2 yc11_2 yb11_3 yc11_3
  go_wp2_with fail
  (with_reducible refine (laws_toIntS _ ms _ (S1.out.below (by repeat' (first | (with_reducible exact Below.refl _ _) | (with_reducible refine Below.alloc ?_ ?_ _) | (with_reducible refine Below.setCell ?_ ?_ _) | (with_reducible refine below_drewN ?_ _) | (with_reducible refine Below.drew ?_) | (with_reducible refine below_step (by assumption) ?_ ?_) | omega | (simp; done) | (simp; omega)))) (by omega)).mono ?_)
  rintro e w12 ⟨r12, rfl, o12, b12⟩
  have O12 := OwnR.wide (OwnR.of o12) (lo' := w11.heap.size) (by first | omega | (simp; done) | (simp; omega)) (Nat.le_refl _)
  clear o12
  have z12 := b12.size
  (try simp at z12)
  have y12_0 : w.heap.size < w12.heap.size := by omega
  have y12_1 : w4.heap.size < w12.heap.size := by omega
  have y12_2 : w5.heap.size < w12.heap.size := by omega
  have y12_3 : w7.heap.size < w12.heap.size := by omega
  have k12_0_0 : w12.cell? ⟨w.heap.size, 0, none⟩ = some (.bool s0) := by rw [(bxcell b12).1 _ _ (by first | omega | (simp; done) | (simp; omega))]; simp [go_sem, *]
  have k12_0_1 : w12.cell? ⟨w.heap.size, 1, none⟩ = some (.slice A0 xs.length c0) := by rw [(bxcell b12).1 _ _ (by first | omega | (simp; done) | (simp; omega))]; simp [go_sem, *]
  have k12_1_0 : w12.cell? ⟨w4.heap.size, 0, none⟩ = some (.bool rs0) := by rw [(bxcell b12).1 _ _ (by first | omega | (simp; done) | (simp; omega))]; simp [go_sem, *]
  have k12_1_1 : w12.cell? ⟨w4.heap.size, 1, none⟩ = some (.slice A4 n4 c4) := by rw [(bxcell b12).1 _ _ (by first | omega | (simp; done) | (simp; omega))]; simp [go_sem, *]
  have k12_2_0 : w12.cell? ⟨w5.heap.size, 0, none⟩ = some (.bool s0) := by rw [(bxcell b12).1 _ _ (by first | omega | (simp; done) | (simp; omega))]; simp [go_sem, *]
  have k12_2_1 : w12.cell? ⟨w5.heap.size, 1, none⟩ = some (.slice A5 n5 c5) := by rw [(bxcell b12).1 _ _ (by first | omega | (simp; done) | (simp; omega))]; simp [go_sem, *]
  have k12_3_0 : w12.cell? ⟨w7.heap.size, 0, none⟩ = some (.bool rs0) := by rw [(bxcell b12).1 _ _ (by first | omega | (simp; done) | (simp; omega))]; simp [go_sem, *]
  have k12_3_1 : w12.cell? ⟨w7.heap.size, 1, none⟩ = some (.slice A7 n7 c7) := by rw [(bxcell b12).1 _ _ (by first | omega | (simp; done) | (simp; omega))]; simp [go_sem, *]
  clear k11_0_0 k11_0_1 k11_1_0 k11_1_1 k11_2_0 k11_2_1 k11_3_0 k11_3_1 y11_0 y11_1 y11_2 y11_3
  go_wp2_with fail
  (with_reducible refine (eqInts _ _ ms _ (OwnR.here O6 (by repeat' (first | (with_reducible exact Below.refl _ _) | (with_reducible refine Below.alloc ?_ ?_ _) | (with_reducible refine Below.setCell ?_ ?_ _) | (with_reducible refine below_drewN ?_ _) | (with_reducible refine Below.drew ?_) | (with_reducible refine below_step (by assumption) ?_ ?_) | omega | (simp; done) | (simp; omega)))).sl (OwnR.here O12 (by repeat' (first | (with_reducible exact Below.refl _ _) | (with_reducible refine Below.alloc ?_ ?_ _) | (with_reducible refine Below.setCell ?_ ?_ _) | (with_reducible refine below_drewN ?_ _) | (with_reducible refine Below.drew ?_) | (with_reducible refine below_step (by assumption) ?_ ?_) | omega | (simp; done) | (simp; omega)))).sl).mono ?_)
  rintro e w13 ⟨rfl, b13⟩
  have z13 := b13.size
  (try simp at z13)
  have y13_0 : w.heap.size < w13.heap.size := by omega
  have y13_1 : w4.heap.size < w13.heap.size := by omega
  have y13_2 : w5.heap.size < w13.heap.size := by omega
  have y13_3 : w7.heap.size < w13.heap.size := by omega
  have k13_0_0 : w13.cell? ⟨w.heap.size, 0, none⟩ = some (.bool s0) := by rw [(bxcell b13).1 _ _ (by first | omega | (simp; done) | (simp; omega))]; simp [go_sem, *]
  have k13_0_1 : w13.cell? ⟨w.heap.size, 1, none⟩ = some (.slice A0 xs.length c0) := by rw [(bxcell b13).1 _ _ (by first | omega | (simp; done) | (simp; omega))]; simp [go_sem, *]
  have k13_1_0 : w13.cell? ⟨w4.heap.size, 0, none⟩ = some (.bool rs0) := by rw [(bxcell b13).1 _ _ (by first | omega | (simp; done) | (simp; omega))]; simp [go_sem, *]
  have k13_1_1 : w13.cell? ⟨w4.heap.size, 1, none⟩ = some (.slice A4 n4 c4) := by rw [(bxcell b13).1 _ _ (by first | omega | (simp; done) | (simp; omega))]; simp [go_sem, *]
  have k13_2_0 : w13.cell? ⟨w5.heap.size, 0, none⟩ = some (.bool s0) := by rw [(bxcell b13).1 _ _ (by first | omega | (simp; done) | (simp; omega))]; simp [go_sem, *]
  have k13_2_1 : w13.cell? ⟨w5.heap.size, 1, none⟩ = some (.slice A5 n5 c5) := by rw [(bxcell b13).1 _ _ (by first | omega | (simp; done) | (simp; omega))]; simp [go_sem, *]
  have k13_3_0 : w13.cell? ⟨w7.heap.size, 0, none⟩ = some (.bool rs0) := by rw [(bxcell b13).1 _ _ (by first | omega | (simp; done) | (simp; omega))]; simp [go_sem, *]
  have k13_3_1 : w13.cell? ⟨w7.heap.size, 1, none⟩ = some (.slice A7 n7 c7) := by rw [(bxcell b13).1 _ _ (by first | omega | (simp; done) | (simp; omega))]; simp [go_sem, *]
  clear k12_0_0 k12_0_1 k12_1_0 k12_1_1 k12_2_0 k12_2_1 k12_3_0 k12_3_1 y12_0 y12_1 y12_2 y12_3
  go_wp2_with fail
  (with_reducible refine (markBig s0 _ _ _ xs (1) (w4.heap.size + 1) (w5.heap.size) _ (OwnR.here O5 (by repeat' (first | (with_reducible exact Below.refl _ _) | (with_reducible refine Below.alloc ?_ ?_ _) | (with_reducible refine Below.setCell ?_ ?_ _) | (with_reducible refine below_drewN ?_ _) | (with_reducible refine Below.drew ?_) | (with_reducible refine below_step (by assumption) ?_ ?_) | omega | (simp; done) | (simp; omega)))) (by omega) (by omega) (by omega) (by omega)).mono ?_)
  rintro e w14 ⟨rfl, O14, fr14, b14⟩
  have O4x14 := OwnR.across O4 (by repeat' (first | (with_reducible exact Below.refl _ _) | (with_reducible refine Below.alloc ?_ ?_ _) | (with_reducible refine Below.setCell ?_ ?_ _) | (with_reducible refine below_drewN ?_ _) | (with_reducible refine Below.drew ?_) | (with_reducible refine below_step (by assumption) ?_ ?_) | omega | (simp; done) | (simp; omega))) fr14 (by omega)
  clear O4
  have P4x14 := OwnR.across P4 (by repeat' (first | (with_reducible exact Below.refl _ _) | (with_reducible refine Below.alloc ?_ ?_ _) | (with_reducible refine Below.setCell ?_ ?_ _) | (with_reducible refine below_drewN ?_ _) | (with_reducible refine Below.drew ?_) | (with_reducible refine below_step (by assumption) ?_ ?_) | omega | (simp; done) | (simp; omega))) fr14 (by omega)
  clear P4
  have O6x14 := OwnR.across O6 (by repeat' (first | (with_reducible exact Below.refl _ _) | (with_reducible refine Below.alloc ?_ ?_ _) | (with_reducible refine Below.setCell ?_ ?_ _) | (with_reducible refine below_drewN ?_ _) | (with_reducible refine Below.drew ?_) | (with_reducible refine below_step (by assumption) ?_ ?_) | omega | (simp; done) | (simp; omega))) fr14 (by omega)
  clear O6
  have O7x14 := OwnR.across O7 (by repeat' (first | (with_reducible exact Below.refl _ _) | (with_reducible refine Below.alloc ?_ ?_ _) | (with_reducible refine Below.setCell ?_ ?_ _) | (with_reducible refine below_drewN ?_ _) | (with_reducible refine Below.drew ?_) | (with_reducible refine below_step (by assumption) ?_ ?_) | omega | (simp; done) | (simp; omega))) fr14 (by omega)
  clear O7
  have P7x14 := OwnR.across P7 (by repeat' (first | (with_reducible exact Below.refl _ _) | (with_reducible refine Below.alloc ?_ ?_ _) | (with_reducible refine Below.setCell ?_ ?_ _) | (with_reducible refine below_drewN ?_ _) | (with_reducible refine Below.drew ?_) | (with_reducible refine below_step (by assumption) ?_ ?_) | omega | (simp; done) | (simp; omega))) fr14 (by omega)
  clear P7
  have z14 := b14.size
  (try simp at z14)
  have y14_0 : w.heap.size < w14.heap.size := by omega
  have y14_1 : w4.heap.size < w14.heap.size := by omega
  have y14_2 : w5.heap.size < w14.heap.size := by omega
  have y14_3 : w7.heap.size < w14.heap.size := by omega
  have k14_0_0 : w14.cell? ⟨w.heap.size, 0, none⟩ = some (.bool s0) := by rw [fr14.cell (by first | omega | (simp; done) | (simp; omega)) (by omega)]; simp [go_sem, *]
  have k14_0_1 : w14.cell? ⟨w.heap.size, 1, none⟩ = some (.slice A0 xs.length c0) := by rw [fr14.cell (by first | omega | (simp; done) | (simp; omega)) (by omega)]; simp [go_sem, *]
  have k14_1_0 : w14.cell? ⟨w4.heap.size, 0, none⟩ = some (.bool rs0) := by rw [fr14.cell (by first | omega | (simp; done) | (simp; omega)) (by omega)]; simp [go_sem, *]
  have k14_1_1 : w14.cell? ⟨w4.heap.size, 1, none⟩ = some (.slice A4 n4 c4) := by rw [fr14.cell (by first | omega | (simp; done) | (simp; omega)) (by omega)]; simp [go_sem, *]
  have k14_2_0 : w14.cell? ⟨w5.heap.size, 0, none⟩ = some (.bool s0) := by rw [fr14.cell (by first | omega | (simp; done) | (simp; omega)) (by omega)]; simp [go_sem, *]
  have k14_2_1 : w14.cell? ⟨w5.heap.size, 1, none⟩ = some (.slice A5 n5 c5) := by rw [fr14.cell (by first | omega | (simp; done) | (simp; omega)) (by omega)]; simp [go_sem, *]
  have k14_3_0 : w14.cell? ⟨w7.heap.size, 0, none⟩ = some (.bool rs0) := by rw [fr14.cell (by first | omega | (simp; done) | (simp; omega)) (by omega)]; simp [go_sem, *]
  have k14_3_1 : w14.cell? ⟨w7.heap.size, 1, none⟩ = some (.slice A7 n7 c7) := by rw [fr14.cell (by first | omega | (simp; done) | (simp; omega)) (by omega)]; simp [go_sem, *]
  clear k13_0_0 k13_0_1 k13_1_0 k13_1_1 k13_2_0 k13_2_1 k13_3_0 k13_3_1 y13_0 y13_1 y13_2 y13_3
  go_wp2_with fail
  (with_reducible refine (markInts _ ms ((1 + xs.length)) (w5.heap.size + 1) (w6.heap.size) _ (OwnR.here O6x14 (by repeat' (first | (with_reducible exact Below.refl _ _) | (with_reducible refine Below.alloc ?_ ?_ _) | (with_reducible refine Below.setCell ?_ ?_ _) | (with_reducible refine below_drewN ?_ _) | (with_reducible refine Below.drew ?_) | (with_reducible refine below_step (by assumption) ?_ ?_) | omega | (simp; done) | (simp; omega)))) (by omega) (by omega) (by omega)).mono ?_)
  rintro e w15 ⟨rfl, O15, fr15, b15⟩
  have O4x14x15 := OwnR.across O4x14 (by repeat' (first | (with_reducible exact Below.refl _ _) | (with_reducible refine Below.alloc ?_ ?_ _) | (with_reducible refine Below.setCell ?_ ?_ _) | (with_reducible refine below_drewN ?_ _) | (with_reducible refine Below.drew ?_) | (with_reducible refine below_step (by assumption) ?_ ?_) | omega | (simp; done) | (simp; omega))) fr15 (by omega)
  clear O4x14
  have P4x14x15 := OwnR.across P4x14 (by repeat' (first | (with_reducible exact Below.refl _ _) | (with_reducible refine Below.alloc ?_ ?_ _) | (with_reducible refine Below.setCell ?_ ?_ _) | (with_reducible refine below_drewN ?_ _) | (with_reducible refine Below.drew ?_) | (with_reducible refine below_step (by assumption) ?_ ?_) | omega | (simp; done) | (simp; omega))) fr15 (by omega)
  clear P4x14
  have O7x14x15 := OwnR.across O7x14 (by repeat' (first | (with_reducible exact Below.refl _ _) | (with_reducible refine Below.alloc ?_ ?_ _) | (with_reducible refine Below.setCell ?_ ?_ _) | (with_reducible refine below_drewN ?_ _) | (with_reducible refine Below.drew ?_) | (with_reducible refine below_step (by assumption) ?_ ?_) | omega | (simp; done) | (simp; omega))) fr15 (by omega)
  clear O7x14
  have P7x14x15 := OwnR.across P7x14 (by repeat' (first | (with_reducible exact Below.refl _ _) | (with_reducible refine Below.alloc ?_ ?_ _) | (with_reducible refine Below.setCell ?_ ?_ _) | (with_reducible refine below_drewN ?_ _) | (with_reducible refine Below.drew ?_) | (with_reducible refine below_step (by assumption) ?_ ?_) | omega | (simp; done) | (simp; omega))) fr15 (by omega)
  clear P7x14
  have z15 := b15.size
  (try simp at z15)
  have y15_0 : w.heap.size < w15.heap.size := by omega
  have y15_1 : w4.heap.size < w15.heap.size := by omega
  have y15_2 : w5.heap.size < w15.heap.size := by omega
  have y15_3 : w7.heap.size < w15.heap.size := by omega
  have k15_0_0 : w15.cell? ⟨w.heap.size, 0, none⟩ = some (.bool s0) := by rw [fr15.cell (by first | omega | (simp; done) | (simp; omega)) (by omega)]; simp [go_sem, *]
  have k15_0_1 : w15.cell? ⟨w.heap.size, 1, none⟩ = some (.slice A0 xs.length c0) := by rw [fr15.cell (by first | omega | (simp; done) | (simp; omega)) (by omega)]; simp [go_sem, *]
  have k15_1_0 : w15.cell? ⟨w4.heap.size, 0, none⟩ = some (.bool rs0) := by rw [fr15.cell (by first | omega | (simp; done) | (simp; omega)) (by omega)]; simp [go_sem, *]
  have k15_1_1 : w15.cell? ⟨w4.heap.size, 1, none⟩ = some (.slice A4 n4 c4) := by rw [fr15.cell (by first | omega | (simp; done) | (simp; omega)) (by omega)]; simp [go_sem, *]
  have k15_2_0 : w15.cell? ⟨w5.heap.size, 0, none⟩ = some (.bool s0) := by rw [fr15.cell (by first | omega | (simp; done) | (simp; omega)) (by omega)]; simp [go_sem, *]
  have k15_2_1 : w15.cell? ⟨w5.heap.size, 1, none⟩ = some (.slice A5 n5 c5) := by rw [fr15.cell (by first | omega | (simp; done) | (simp; omega)) (by omega)]; simp [go_sem, *]
  have k15_3_0 : w15.cell? ⟨w7.heap.size, 0, none⟩ = some (.bool rs0) := by rw [fr15.cell (by first | omega | (simp; done) | (simp; omega)) (by omega)]; simp [go_sem, *]
  have k15_3_1 : w15.cell? ⟨w7.heap.size, 1, none⟩ = some (.slice A7 n7 c7) := by rw [fr15.cell (by first | omega | (simp; done) | (simp; omega)) (by omega)]; simp [go_sem, *]
  clear k14_0_0 k14_0_1 k14_1_0 k14_1_1 k14_2_0 k14_2_1 k14_3_0 k14_3_1 y14_0 y14_1 y14_2 y14_3
  go_wp2_with fail
  (with_reducible refine (eqBig rs0 _ _ _ _ _ _ rs1 _ (OwnR.here O7x14x15 (by repeat' (first | (with_reducible exact Below.refl _ _) | (with_reducible refine Below.alloc ?_ ?_ _) | (with_reducible refine Below.setCell ?_ ?_ _) | (with_reducible refine below_drewN ?_ _) | (with_reducible refine Below.drew ?_) | (with_reducible refine below_step (by assumption) ?_ ?_) | omega | (simp; done) | (simp; omega)))).sl (OwnR.here O4x14x15 (by repeat' (first | (with_reducible exact Below.refl _ _) | (with_reducible refine Below.alloc ?_ ?_ _) | (with_reducible refine Below.setCell ?_ ?_ _) | (with_reducible refine below_drewN ?_ _) | (with_reducible refine Below.drew ?_) | (with_reducible refine below_step (by assumption) ?_ ?_) | omega | (simp; done) | (simp; omega)))).sl).mono ?_)
  rintro e w16 ⟨rfl, b16⟩
  have z16 := b16.size
  (try simp at z16)
  have y16_0 : w.heap.size < w16.heap.size := by omega
  have y16_1 : w4.heap.size < w16.heap.size := by omega
  have y16_2 : w5.heap.size < w16.heap.size := by omega
  have y16_3 : w7.heap.size < w16.heap.size := by omega
  have k16_0_0 : w16.cell? ⟨w.heap.size, 0, none⟩ = some (.bool s0) := by rw [(bxcell b16).1 _ _ (by first | omega | (simp; done) | (simp; omega))]; simp [go_sem, *]
  have k16_0_1 : w16.cell? ⟨w.heap.size, 1, none⟩ = some (.slice A0 xs.length c0) := by rw [(bxcell b16).1 _ _ (by first | omega | (simp; done) | (simp; omega))]; simp [go_sem, *]
  have k16_1_0 : w16.cell? ⟨w4.heap.size, 0, none⟩ = some (.bool rs0) := by rw [(bxcell b16).1 _ _ (by first | omega | (simp; done) | (simp; omega))]; simp [go_sem, *]
  have k16_1_1 : w16.cell? ⟨w4.heap.size, 1, none⟩ = some (.slice A4 n4 c4) := by rw [(bxcell b16).1 _ _ (by first | omega | (simp; done) | (simp; omega))]; simp [go_sem, *]
  have k16_2_0 : w16.cell? ⟨w5.heap.size, 0, none⟩ = some (.bool s0) := by rw [(bxcell b16).1 _ _ (by first | omega | (simp; done) | (simp; omega))]; simp [go_sem, *]
  have k16_2_1 : w16.cell? ⟨w5.heap.size, 1, none⟩ = some (.slice A5 n5 c5) := by rw [(bxcell b16).1 _ _ (by first | omega | (simp; done) | (simp; omega))]; simp [go_sem, *]
  have k16_3_0 : w16.cell? ⟨w7.heap.size, 0, none⟩ = some (.bool rs0) := by rw [(bxcell b16).1 _ _ (by first | omega | (simp; done) | (simp; omega))]; simp [go_sem, *]
  have k16_3_1 : w16.cell? ⟨w7.heap.size, 1, none⟩ = some (.slice A7 n7 c7) := by rw [(bxcell b16).1 _ _ (by first | omega | (simp; done) | (simp; omega))]; simp [go_sem, *]
  clear k15_0_0 k15_0_1 k15_1_0 k15_1_1 k15_2_0 k15_2_1 k15_3_0 k15_3_1 y15_0 y15_1 y15_2 y15_3
  go_wp2_with fail
  (with_reducible refine (eqInts _ _ rs2 _ (OwnR.here P7x14x15 (by repeat' (first | (with_reducible exact Below.refl _ _) | (with_reducible refine Below.alloc ?_ ?_ _) | (with_reducible refine Below.setCell ?_ ?_ _) | (with_reducible refine below_drewN ?_ _) | (with_reducible refine Below.drew ?_) | (with_reducible refine below_step (by assumption) ?_ ?_) | omega | (simp; done) | (simp; omega)))).sl (OwnR.here P4x14x15 (by repeat' (first | (with_reducible exact Below.refl _ _) | (with_reducible refine Below.alloc ?_ ?_ _) | (with_reducible refine Below.setCell ?_ ?_ _) | (with_reducible refine below_drewN ?_ _) | (with_reducible refine Below.drew ?_) | (with_reducible refine below_step (by assumption) ?_ ?_) | omega | (simp; done) | (simp; omega)))).sl).mono ?_)
  rintro e w17 ⟨rfl, b17⟩
  have z17 := b17.size
  (try simp at z17)
  have y17_0 : w.heap.size < w17.heap.size := by omega
  have y17_1 : w4.heap.size < w17.heap.size := by omega
  have y17_2 : w5.heap.size < w17.heap.size := by omega
  have y17_3 : w7.heap.size < w17.heap.size := by omega
  have k17_0_0 : w17.cell? ⟨w.heap.size, 0, none⟩ = some (.bool s0) := by rw [(bxcell b17).1 _ _ (by first | omega | (simp; done) | (simp; omega))]; simp [go_sem, *]
  have k17_0_1 : w17.cell? ⟨w.heap.size, 1, none⟩ = some (.slice A0 xs.length c0) := by rw [(bxcell b17).1 _ _ (by first | omega | (simp; done) | (simp; omega))]; simp [go_sem, *]
  have k17_1_0 : w17.cell? ⟨w4.heap.size, 0, none⟩ = some (.bool rs0) := by rw [(bxcell b17).1 _ _ (by first | omega | (simp; done) | (simp; omega))]; simp [go_sem, *]
  have k17_1_1 : w17.cell? ⟨w4.heap.size, 1, none⟩ = some (.slice A4 n4 c4) := by rw [(bxcell b17).1 _ _ (by first | omega | (simp; done) | (simp; omega))]; simp [go_sem, *]
  have k17_2_0 : w17.cell? ⟨w5.heap.size, 0, none⟩ = some (.bool s0) := by rw [(bxcell b17).1 _ _ (by first | omega | (simp; done) | (simp; omega))]; simp [go_sem, *]
  have k17_2_1 : w17.cell? ⟨w5.heap.size, 1, none⟩ = some (.slice A5 n5 c5) := by rw [(bxcell b17).1 _ _ (by first | omega | (simp; done) | (simp; omega))]; simp [go_sem, *]
  have k17_3_0 : w17.cell? ⟨w7.heap.size, 0, none⟩ = some (.bool rs0) := by rw [(bxcell b17).1 _ _ (by first | omega | (simp; done) | (simp; omega))]; simp [go_sem, *]
  have k17_3_1 : w17.cell? ⟨w7.heap.size, 1, none⟩ = some (.slice A7 n7 c7) := by rw [(bxcell b17).1 _ _ (by first | omega | (simp; done) | (simp; omega))]; simp [go_sem, *]
  clear k16_0_0 k16_0_1 k16_1_0 k16_1_1 k16_2_0 k16_2_1 k16_3_0 k16_3_1 y16_0 y16_1 y16_2 y16_3
  go_wp2_with fail
  (with_reducible refine (markBig rs0 _ _ _ rs1 (1) (lo7) (hi7) _ (OwnR.here O7x14x15 (by repeat' (first | (with_reducible exact Below.refl _ _) | (with_reducible refine Below.alloc ?_ ?_ _) | (with_reducible refine Below.setCell ?_ ?_ _) | (with_reducible refine below_drewN ?_ _) | (with_reducible refine Below.drew ?_) | (with_reducible refine below_step (by assumption) ?_ ?_) | omega | (simp; done) | (simp; omega)))) (by omega) (by omega) (by omega) (by omega)).mono ?_)
  rintro e w18 ⟨rfl, O18, fr18, b18⟩
  have O4x14x15x18 := OwnR.across O4x14x15 (by repeat' (first | (with_reducible exact Below.refl _ _) | (with_reducible refine Below.alloc ?_ ?_ _) | (with_reducible refine Below.setCell ?_ ?_ _) | (with_reducible refine below_drewN ?_ _) | (with_reducible refine Below.drew ?_) | (with_reducible refine below_step (by assumption) ?_ ?_) | omega | (simp; done) | (simp; omega))) fr18 (by omega)
  clear O4x14x15
  have P4x14x15x18 := OwnR.across P4x14x15 (by repeat' (first | (with_reducible exact Below.refl _ _) | (with_reducible refine Below.alloc ?_ ?_ _) | (with_reducible refine Below.setCell ?_ ?_ _) | (with_reducible refine below_drewN ?_ _) | (with_reducible refine Below.drew ?_) | (with_reducible refine below_step (by assumption) ?_ ?_) | omega | (simp; done) | (simp; omega))) fr18 (by omega)
  clear P4x14x15
  have P7x14x15x18 := OwnR.across P7x14x15 (by repeat' (first | (with_reducible exact Below.refl _ _) | (with_reducible refine Below.alloc ?_ ?_ _) | (with_reducible refine Below.setCell ?_ ?_ _) | (with_reducible refine below_drewN ?_ _) | (with_reducible refine Below.drew ?_) | (with_reducible refine below_step (by assumption) ?_ ?_) | omega | (simp; done) | (simp; omega))) fr18 (by omega)
  clear P7x14x15
  have z18 := b18.size
  (try simp at z18)
  have y18_0 : w.heap.size < w18.heap.size := by omega
  have y18_1 : w4.heap.size < w18.heap.size := by omega
  have y18_2 : w5.heap.size < w18.heap.size := by omega
  have y18_3 : w7.heap.size < w18.heap.size := by omega
  have k18_0_0 : w18.cell? ⟨w.heap.size, 0, none⟩ = some (.bool s0) := by rw [fr18.cell (by first | omega | (simp; done) | (simp; omega)) (by omega)]; simp [go_sem, *]
  have k18_0_1 : w18.cell? ⟨w.heap.size, 1, none⟩ = some (.slice A0 xs.length c0) := by rw [fr18.cell (by first | omega | (simp; done) | (simp; omega)) (by omega)]; simp [go_sem, *]
  have k18_1_0 : w18.cell? ⟨w4.heap.size, 0, none⟩ = some (.bool rs0) := by rw [fr18.cell (by first | omega | (simp; done) | (simp; omega)) (by omega)]; simp [go_sem, *]
  have k18_1_1 : w18.cell? ⟨w4.heap.size, 1, none⟩ = some (.slice A4 n4 c4) := by rw [fr18.cell (by first | omega | (simp; done) | (simp; omega)) (by omega)]; simp [go_sem, *]
  have k18_2_0 : w18.cell? ⟨w5.heap.size, 0, none⟩ = some (.bool s0) := by rw [fr18.cell (by first | omega | (simp; done) | (simp; omega)) (by omega)]; simp [go_sem, *]
  have k18_2_1 : w18.cell? ⟨w5.heap.size, 1, none⟩ = some (.slice A5 n5 c5) := by rw [fr18.cell (by first | omega | (simp; done) | (simp; omega)) (by omega)]; simp [go_sem, *]
  have k18_3_0 : w18.cell? ⟨w7.heap.size, 0, none⟩ = some (.bool rs0) := by rw [fr18.cell (by first | omega | (simp; done) | (simp; omega)) (by omega)]; simp [go_sem, *]
  have k18_3_1 : w18.cell? ⟨w7.heap.size, 1, none⟩ = some (.slice A7 n7 c7) := by rw [fr18.cell (by first | omega | (simp; done) | (simp; omega)) (by omega)]; simp [go_sem, *]
  clear k17_0_0 k17_0_1 k17_1_0 k17_1_1 k17_2_0 k17_2_1 k17_3_0 k17_3_1 y17_0 y17_1 y17_2 y17_3
  go_wp2_with fail
  (with_reducible refine (markInts _ rs2 ((1 + rs1.length)) (lp7) (hp7) _ (OwnR.here P7x14x15x18 (by repeat' (first | (with_reducible exact Below.refl _ _) | (with_reducible refine Below.alloc ?_ ?_ _) | (with_reducible refine Below.setCell ?_ ?_ _) | (with_reducible refine below_drewN ?_ _) | (with_reducible refine Below.drew ?_) | (with_reducible refine below_step (by assumption) ?_ ?_) | omega | (simp; done) | (simp; omega)))) (by omega) (by omega) (by omega)).mono ?_)
  rintro e w19 ⟨rfl, O19, fr19, b19⟩
  have O4x14x15x18x19 := OwnR.across O4x14x15x18 (by repeat' (first | (with_reducible exact Below.refl _ _) | (with_reducible refine Below.alloc ?_ ?_ _) | (with_reducible refine Below.setCell ?_ ?_ _) | (with_reducible refine below_drewN ?_ _) | (with_reducible refine Below.drew ?_) | (with_reducible refine below_step (by assumption) ?_ ?_) | omega | (simp; done) | (simp; omega))) fr19 (by omega)
  clear O4x14x15x18
  have P4x14x15x18x19 := OwnR.across P4x14x15x18 (by repeat' (first | (with_reducible exact Below.refl _ _) | (with_reducible refine Below.alloc ?_ ?_ _) | (with_reducible refine Below.setCell ?_ ?_ _) | (with_reducible refine below_drewN ?_ _) | (with_reducible refine Below.drew ?_) | (with_reducible refine below_step (by assumption) ?_ ?_) | omega | (simp; done) | (simp; omega))) fr19 (by omega)
  clear P4x14x15x18
  have O18x19 := OwnR.across O18 (by repeat' (first | (with_reducible exact Below.refl _ _) | (with_reducible refine Below.alloc ?_ ?_ _) | (with_reducible refine Below.setCell ?_ ?_ _) | (with_reducible refine below_drewN ?_ _) | (with_reducible refine Below.drew ?_) | (with_reducible refine below_step (by assumption) ?_ ?_) | omega | (simp; done) | (simp; omega))) fr19 (by omega)
  clear O18
  have z19 := b19.size
  (try simp at z19)
  have y19_0 : w.heap.size < w19.heap.size := by omega
  have y19_1 : w4.heap.size < w19.heap.size := by omega
  have y19_2 : w5.heap.size < w19.heap.size := by omega
  have y19_3 : w7.heap.size < w19.heap.size := by omega
  have k19_0_0 : w19.cell? ⟨w.heap.size, 0, none⟩ = some (.bool s0) := by rw [fr19.cell (by first | omega | (simp; done) | (simp; omega)) (by omega)]; simp [go_sem, *]
  have k19_0_1 : w19.cell? ⟨w.heap.size, 1, none⟩ = some (.slice A0 xs.length c0) := by rw [fr19.cell (by first | omega | (simp; done) | (simp; omega)) (by omega)]; simp [go_sem, *]
  have k19_1_0 : w19.cell? ⟨w4.heap.size, 0, none⟩ = some (.bool rs0) := by rw [fr19.cell (by first | omega | (simp; done) | (simp; omega)) (by omega)]; simp [go_sem, *]
  have k19_1_1 : w19.cell? ⟨w4.heap.size, 1, none⟩ = some (.slice A4 n4 c4) := by rw [fr19.cell (by first | omega | (simp; done) | (simp; omega)) (by omega)]; simp [go_sem, *]
  have k19_2_0 : w19.cell? ⟨w5.heap.size, 0, none⟩ = some (.bool s0) := by rw [fr19.cell (by first | omega | (simp; done) | (simp; omega)) (by omega)]; simp [go_sem, *]
  have k19_2_1 : w19.cell? ⟨w5.heap.size, 1, none⟩ = some (.slice A5 n5 c5) := by rw [fr19.cell (by first | omega | (simp; done) | (simp; omega)) (by omega)]; simp [go_sem, *]
  have k19_3_0 : w19.cell? ⟨w7.heap.size, 0, none⟩ = some (.bool rs0) := by rw [fr19.cell (by first | omega | (simp; done) | (simp; omega)) (by omega)]; simp [go_sem, *]
  have k19_3_1 : w19.cell? ⟨w7.heap.size, 1, none⟩ = some (.slice A7 n7 c7) := by rw [fr19.cell (by first | omega | (simp; done) | (simp; omega)) (by omega)]; simp [go_sem, *]
  clear k18_0_0 k18_0_1 k18_1_0 k18_1_1 k18_2_0 k18_2_1 k18_3_0 k18_3_1 y18_0 y18_1 y18_2 y18_3
  go_wp2_with fail
  (with_reducible refine (heldBig rs0 _ _ _ rs1.length (1) _ (OwnR.here O18x19 (by repeat' (first | (with_reducible exact Below.refl _ _) | (with_reducible refine Below.alloc ?_ ?_ _) | (with_reducible refine Below.setCell ?_ ?_ _) | (with_reducible refine below_drewN ?_ _) | (with_reducible refine Below.drew ?_) | (with_reducible refine below_step (by assumption) ?_ ?_) | omega | (simp; done) | (simp; omega)))).sl (by omega) (by omega)).mono ?_)
  rintro e w20 ⟨rfl, b20⟩
  have z20 := b20.size
  (try simp at z20)
  have y20_0 : w.heap.size < w20.heap.size := by omega
  have y20_1 : w4.heap.size < w20.heap.size := by omega
  have y20_2 : w5.heap.size < w20.heap.size := by omega
  have y20_3 : w7.heap.size < w20.heap.size := by omega
  have k20_0_0 : w20.cell? ⟨w.heap.size, 0, none⟩ = some (.bool s0) := by rw [(bxcell b20).1 _ _ (by first | omega | (simp; done) | (simp; omega))]; simp [go_sem, *]
  have k20_0_1 : w20.cell? ⟨w.heap.size, 1, none⟩ = some (.slice A0 xs.length c0) := by rw [(bxcell b20).1 _ _ (by first | omega | (simp; done) | (simp; omega))]; simp [go_sem, *]
  have k20_1_0 : w20.cell? ⟨w4.heap.size, 0, none⟩ = some (.bool rs0) := by rw [(bxcell b20).1 _ _ (by first | omega | (simp; done) | (simp; omega))]; simp [go_sem, *]
  have k20_1_1 : w20.cell? ⟨w4.heap.size, 1, none⟩ = some (.slice A4 n4 c4) := by rw [(bxcell b20).1 _ _ (by first | omega | (simp; done) | (simp; omega))]; simp [go_sem, *]
  have k20_2_0 : w20.cell? ⟨w5.heap.size, 0, none⟩ = some (.bool s0) := by rw [(bxcell b20).1 _ _ (by first | omega | (simp; done) | (simp; omega))]; simp [go_sem, *]
  have k20_2_1 : w20.cell? ⟨w5.heap.size, 1, none⟩ = some (.slice A5 n5 c5) := by rw [(bxcell b20).1 _ _ (by first | omega | (simp; done) | (simp; omega))]; simp [go_sem, *]
  have k20_3_0 : w20.cell? ⟨w7.heap.size, 0, none⟩ = some (.bool rs0) := by rw [(bxcell b20).1 _ _ (by first | omega | (simp; done) | (simp; omega))]; simp [go_sem, *]
  have k20_3_1 : w20.cell? ⟨w7.heap.size, 1, none⟩ = some (.slice A7 n7 c7) := by rw [(bxcell b20).1 _ _ (by first | omega | (simp; done) | (simp; omega))]; simp [go_sem, *]
  clear k19_0_0 k19_0_1 k19_1_0 k19_1_1 k19_2_0 k19_2_1 k19_3_0 k19_3_1 y19_0 y19_1 y19_2 y19_3
  go_wp2_with fail
  (with_reducible refine (heldInts _ rs2.length ((1 + rs1.length)) _ (OwnR.here O19 (by repeat' (first | (with_reducible exact Below.refl _ _) | (with_reducible refine Below.alloc ?_ ?_ _) | (with_reducible refine Below.setCell ?_ ?_ _) | (with_reducible refine below_drewN ?_ _) | (with_reducible refine Below.drew ?_) | (with_reducible refine below_step (by assumption) ?_ ?_) | omega | (simp; done) | (simp; omega)))).sl (by omega) (by omega)).mono ?_)
  rintro e w21 ⟨rfl, b21⟩
  have z21 := b21.size
  (try simp at z21)
  have y21_0 : w.heap.size < w21.heap.size := by omega
  have y21_1 : w4.heap.size < w21.heap.size := by omega
  have y21_2 : w5.heap.size < w21.heap.size := by omega
  have y21_3 : w7.heap.size < w21.heap.size := by omega
  have k21_0_0 : w21.cell? ⟨w.heap.size, 0, none⟩ = some (.bool s0) := by rw [(bxcell b21).1 _ _ (by first | omega | (simp; done) | (simp; omega))]; simp [go_sem, *]
  have k21_0_1 : w21.cell? ⟨w.heap.size, 1, none⟩ = some (.slice A0 xs.length c0) := by rw [(bxcell b21).1 _ _ (by first | omega | (simp; done) | (simp; omega))]; simp [go_sem, *]
  have k21_1_0 : w21.cell? ⟨w4.heap.size, 0, none⟩ = some (.bool rs0) := by rw [(bxcell b21).1 _ _ (by first | omega | (simp; done) | (simp; omega))]; simp [go_sem, *]
  have k21_1_1 : w21.cell? ⟨w4.heap.size, 1, none⟩ = some (.slice A4 n4 c4) := by rw [(bxcell b21).1 _ _ (by first | omega | (simp; done) | (simp; omega))]; simp [go_sem, *]
  have k21_2_0 : w21.cell? ⟨w5.heap.size, 0, none⟩ = some (.bool s0) := by rw [(bxcell b21).1 _ _ (by first | omega | (simp; done) | (simp; omega))]; simp [go_sem, *]
  have k21_2_1 : w21.cell? ⟨w5.heap.size, 1, none⟩ = some (.slice A5 n5 c5) := by rw [(bxcell b21).1 _ _ (by first | omega | (simp; done) | (simp; omega))]; simp [go_sem, *]
  have k21_3_0 : w21.cell? ⟨w7.heap.size, 0, none⟩ = some (.bool rs0) := by rw [(bxcell b21).1 _ _ (by first | omega | (simp; done) | (simp; omega))]; simp [go_sem, *]
  have k21_3_1 : w21.cell? ⟨w7.heap.size, 1, none⟩ = some (.slice A7 n7 c7) := by rw [(bxcell b21).1 _ _ (by first | omega | (simp; done) | (simp; omega))]; simp [go_sem, *]
  clear k20_0_0 k20_0_1 k20_1_0 k20_1_1 k20_2_0 k20_2_1 k20_3_0 k20_3_1 y20_0 y20_1 y20_2 y20_3
  go_wp2_with fail
  (with_reducible refine (laws_toBigInt s0 A0 _ c0 xs _ (S0.out.below (by repeat' (first | (with_reducible exact Below.refl _ _) | (with_reducible refine Below.alloc ?_ ?_ _) | (with_reducible refine Below.setCell ?_ ?_ _) | (with_reducible refine below_drewN ?_ _) | (with_reducible refine Below.drew ?_) | (with_reducible refine below_step (by assumption) ?_ ?_) | omega | (simp; done) | (simp; omega)))) (by omega)).mono ?_)
  rintro e w22 ⟨A22, n22, c22, rfl, o22, b22⟩
  have O22 := OwnR.wide (OwnR.of o22) (lo' := w21.heap.size) (by first | omega | (simp; done) | (simp; omega)) (Nat.le_refl _)
  clear o22
  have z22 := b22.size
  (try simp at z22)
  have y22_0 : w.heap.size < w22.heap.size := by omega
  have y22_1 : w4.heap.size < w22.heap.size := by omega
  have y22_2 : w5.heap.size < w22.heap.size := by omega
  have y22_3 : w7.heap.size < w22.heap.size := by omega
  have k22_0_0 : w22.cell? ⟨w.heap.size, 0, none⟩ = some (.bool s0) := by rw [(bxcell b22).1 _ _ (by first | omega | (simp; done) | (simp; omega))]; simp [go_sem, *]
  have k22_0_1 : w22.cell? ⟨w.heap.size, 1, none⟩ = some (.slice A0 xs.length c0) := by rw [(bxcell b22).1 _ _ (by first | omega | (simp; done) | (simp; omega))]; simp [go_sem, *]
  have k22_1_0 : w22.cell? ⟨w4.heap.size, 0, none⟩ = some (.bool rs0) := by rw [(bxcell b22).1 _ _ (by first | omega | (simp; done) | (simp; omega))]; simp [go_sem, *]
  have k22_1_1 : w22.cell? ⟨w4.heap.size, 1, none⟩ = some (.slice A4 n4 c4) := by rw [(bxcell b22).1 _ _ (by first | omega | (simp; done) | (simp; omega))]; simp [go_sem, *]
  have k22_2_0 : w22.cell? ⟨w5.heap.size, 0, none⟩ = some (.bool s0) := by rw [(bxcell b22).1 _ _ (by first | omega | (simp; done) | (simp; omega))]; simp [go_sem, *]
  have k22_2_1 : w22.cell? ⟨w5.heap.size, 1, none⟩ = some (.slice A5 n5 c5) := by rw [(bxcell b22).1 _ _ (by first | omega | (simp; done) | (simp; omega))]; simp [go_sem, *]
  have k22_3_0 : w22.cell? ⟨w7.heap.size, 0, none⟩ = some (.bool rs0) := by rw [(bxcell b22).1 _ _ (by first | omega | (simp; done) | (simp; omega))]; simp [go_sem, *]
  have k22_3_1 : w22.cell? ⟨w7.heap.size, 1, none⟩ = some (.slice A7 n7 c7) := by rw [(bxcell b22).1 _ _ (by first | omega | (simp; done) | (simp; omega))]; simp [go_sem, *]
  clear k21_0_0 k21_0_1 k21_1_0 k21_1_1 k21_2_0 k21_2_1 k21_3_0 k21_3_1 y21_0 y21_1 y21_2 y21_3
  go_wp2_with fail
  (with_reducible refine (laws_toIntS _ ms _ (S1.out.below (by repeat' (first | (with_reducible exact Below.refl _ _) | (with_reducible refine Below.alloc ?_ ?_ _) | (with_reducible refine Below.setCell ?_ ?_ _) | (with_reducible refine below_drewN ?_ _) | (with_reducible refine Below.drew ?_) | (with_reducible refine below_step (by assumption) ?_ ?_) | omega | (simp; done) | (simp; omega)))) (by omega)).mono ?_)
  rintro e w23 ⟨r23, rfl, o23, b23⟩
  have O23 := OwnR.wide (OwnR.of o23) (lo' := w22.heap.size) (by first | omega | (simp; done) | (simp; omega)) (Nat.le_refl _)
  clear o23
  have z23 := b23.size
  (try simp at z23)
  have y23_0 : w.heap.size < w23.heap.size := by omega
  have y23_1 : w4.heap.size < w23.heap.size := by omega
  have y23_2 : w5.heap.size < w23.heap.size := by omega
  have y23_3 : w7.heap.size < w23.heap.size := by omega
  have k23_0_0 : w23.cell? ⟨w.heap.size, 0, none⟩ = some (.bool s0) := by rw [(bxcell b23).1 _ _ (by first | omega | (simp; done) | (simp; omega))]; simp [go_sem, *]
  have k23_0_1 : w23.cell? ⟨w.heap.size, 1, none⟩ = some (.slice A0 xs.length c0) := by rw [(bxcell b23).1 _ _ (by first | omega | (simp; done) | (simp; omega))]; simp [go_sem, *]
  have k23_1_0 : w23.cell? ⟨w4.heap.size, 0, none⟩ = some (.bool rs0) := by rw [(bxcell b23).1 _ _ (by first | omega | (simp; done) | (simp; omega))]; simp [go_sem, *]
  have k23_1_1 : w23.cell? ⟨w4.heap.size, 1, none⟩ = some (.slice A4 n4 c4) := by rw [(bxcell b23).1 _ _ (by first | omega | (simp; done) | (simp; omega))]; simp [go_sem, *]
  have k23_2_0 : w23.cell? ⟨w5.heap.size, 0, none⟩ = some (.bool s0) := by rw [(bxcell b23).1 _ _ (by first | omega | (simp; done) | (simp; omega))]; simp [go_sem, *]
  have k23_2_1 : w23.cell? ⟨w5.heap.size, 1, none⟩ = some (.slice A5 n5 c5) := by rw [(bxcell b23).1 _ _ (by first | omega | (simp; done) | (simp; omega))]; simp [go_sem, *]
  have k23_3_0 : w23.cell? ⟨w7.heap.size, 0, none⟩ = some (.bool rs0) := by rw [(bxcell b23).1 _ _ (by first | omega | (simp; done) | (simp; omega))]; simp [go_sem, *]
  have k23_3_1 : w23.cell? ⟨w7.heap.size, 1, none⟩ = some (.slice A7 n7 c7) := by rw [(bxcell b23).1 _ _ (by first | omega | (simp; done) | (simp; omega))]; simp [go_sem, *]
  clear k22_0_0 k22_0_1 k22_1_0 k22_1_1 k22_2_0 k22_2_1 k22_3_0 k22_3_1 y22_0 y22_1 y22_2 y22_3
  go_wp2_with fail
  (with_reducible refine (impl_FloorV s0 _ _ _ _ xs ms _ (OwnR.here O22 (by repeat' (first | (with_reducible exact Below.refl _ _) | (with_reducible refine Below.alloc ?_ ?_ _) | (with_reducible refine Below.setCell ?_ ?_ _) | (with_reducible refine below_drewN ?_ _) | (with_reducible refine Below.drew ?_) | (with_reducible refine below_step (by assumption) ?_ ?_) | omega | (simp; done) | (simp; omega)))).sl (OwnR.here O23 (by repeat' (first | (with_reducible exact Below.refl _ _) | (with_reducible refine Below.alloc ?_ ?_ _) | (with_reducible refine Below.setCell ?_ ?_ _) | (with_reducible refine below_drewN ?_ _) | (with_reducible refine Below.drew ?_) | (with_reducible refine below_step (by assumption) ?_ ?_) | omega | (simp; done) | (simp; omega)))).sl).mono ?_)
  rintro e w24 ⟨A24, n24, c24, v24, lo24, hi24, lp24, hp24, rfl, O24, P24, ea24, eb24, ed24, ee24, ef24, b24⟩
  rw [← X0.out]
  rw [← X1.out] at O24
  rw [← X2.out] at P24
  have z24 := b24.size
  (try simp at z24)
  have y24_0 : w.heap.size < w24.heap.size := by omega
  have y24_1 : w4.heap.size < w24.heap.size := by omega
  have y24_2 : w5.heap.size < w24.heap.size := by omega
  have y24_3 : w7.heap.size < w24.heap.size := by omega
  have k24_0_0 : w24.cell? ⟨w.heap.size, 0, none⟩ = some (.bool s0) := by rw [(bxcell b24).1 _ _ (by first | omega | (simp; done) | (simp; omega))]; simp [go_sem, *]
  have k24_0_1 : w24.cell? ⟨w.heap.size, 1, none⟩ = some (.slice A0 xs.length c0) := by rw [(bxcell b24).1 _ _ (by first | omega | (simp; done) | (simp; omega))]; simp [go_sem, *]
  have k24_1_0 : w24.cell? ⟨w4.heap.size, 0, none⟩ = some (.bool rs0) := by rw [(bxcell b24).1 _ _ (by first | omega | (simp; done) | (simp; omega))]; simp [go_sem, *]
  have k24_1_1 : w24.cell? ⟨w4.heap.size, 1, none⟩ = some (.slice A4 n4 c4) := by rw [(bxcell b24).1 _ _ (by first | omega | (simp; done) | (simp; omega))]; simp [go_sem, *]
  have k24_2_0 : w24.cell? ⟨w5.heap.size, 0, none⟩ = some (.bool s0) := by rw [(bxcell b24).1 _ _ (by first | omega | (simp; done) | (simp; omega))]; simp [go_sem, *]
  have k24_2_1 : w24.cell? ⟨w5.heap.size, 1, none⟩ = some (.slice A5 n5 c5) := by rw [(bxcell b24).1 _ _ (by first | omega | (simp; done) | (simp; omega))]; simp [go_sem, *]
  have k24_3_0 : w24.cell? ⟨w7.heap.size, 0, none⟩ = some (.bool rs0) := by rw [(bxcell b24).1 _ _ (by first | omega | (simp; done) | (simp; omega))]; simp [go_sem, *]
  have k24_3_1 : w24.cell? ⟨w7.heap.size, 1, none⟩ = some (.slice A7 n7 c7) := by rw [(bxcell b24).1 _ _ (by first | omega | (simp; done) | (simp; omega))]; simp [go_sem, *]
  clear k23_0_0 k23_0_1 k23_1_0 k23_1_1 k23_2_0 k23_2_1 k23_3_0 k23_3_1 y23_0 y23_1 y23_2 y23_3
  go_wp2_with fail
  (with_reducible refine (eqBig rs0 _ _ _ _ _ _ rs1 _ (OwnR.here O24 (by repeat' (first | (with_reducible exact Below.refl _ _) | (with_reducible refine Below.alloc ?_ ?_ _) | (with_reducible refine Below.setCell ?_ ?_ _) | (with_reducible refine below_drewN ?_ _) | (with_reducible refine Below.drew ?_) | (with_reducible refine below_step (by assumption) ?_ ?_) | omega | (simp; done) | (simp; omega)))).sl (OwnR.here O4x14x15x18x19 (by repeat' (first | (with_reducible exact Below.refl _ _) | (with_reducible refine Below.alloc ?_ ?_ _) | (with_reducible refine Below.setCell ?_ ?_ _) | (with_reducible refine below_drewN ?_ _) | (with_reducible refine Below.drew ?_) | (with_reducible refine below_step (by assumption) ?_ ?_) | omega | (simp; done) | (simp; omega)))).sl).mono ?_)
  rintro e w25 ⟨rfl, b25⟩
  have z25 := b25.size
  (try simp at z25)
  have y25_0 : w.heap.size < w25.heap.size := by omega
  have y25_1 : w4.heap.size < w25.heap.size := by omega
  have y25_2 : w5.heap.size < w25.heap.size := by omega
  have y25_3 : w7.heap.size < w25.heap.size := by omega
  have y25_4 : w24.heap.size < w25.heap.size := by omega
  have k25_0_0 : w25.cell? ⟨w.heap.size, 0, none⟩ = some (.bool s0) := by rw [(bxcell b25).1 _ _ (by first | omega | (simp; done) | (simp; omega))]; simp [go_sem, *]
  have k25_0_1 : w25.cell? ⟨w.heap.size, 1, none⟩ = some (.slice A0 xs.length c0) := by rw [(bxcell b25).1 _ _ (by first | omega | (simp; done) | (simp; omega))]; simp [go_sem, *]
  have k25_1_0 : w25.cell? ⟨w4.heap.size, 0, none⟩ = some (.bool rs0) := by rw [(bxcell b25).1 _ _ (by first | omega | (simp; done) | (simp; omega))]; simp [go_sem, *]
  have k25_1_1 : w25.cell? ⟨w4.heap.size, 1, none⟩ = some (.slice A4 n4 c4) := by rw [(bxcell b25).1 _ _ (by first | omega | (simp; done) | (simp; omega))]; simp [go_sem, *]
  have k25_2_0 : w25.cell? ⟨w5.heap.size, 0, none⟩ = some (.bool s0) := by rw [(bxcell b25).1 _ _ (by first | omega | (simp; done) | (simp; omega))]; simp [go_sem, *]
  have k25_2_1 : w25.cell? ⟨w5.heap.size, 1, none⟩ = some (.slice A5 n5 c5) := by rw [(bxcell b25).1 _ _ (by first | omega | (simp; done) | (simp; omega))]; simp [go_sem, *]
  have k25_3_0 : w25.cell? ⟨w7.heap.size, 0, none⟩ = some (.bool rs0) := by rw [(bxcell b25).1 _ _ (by first | omega | (simp; done) | (simp; omega))]; simp [go_sem, *]
  have k25_3_1 : w25.cell? ⟨w7.heap.size, 1, none⟩ = some (.slice A7 n7 c7) := by rw [(bxcell b25).1 _ _ (by first | omega | (simp; done) | (simp; omega))]; simp [go_sem, *]
  have k25_4_0 : w25.cell? ⟨w24.heap.size, 0, none⟩ = some (.bool rs0) := by rw [(bxcell b25).1 _ _ (by first | omega | (simp; done) | (simp; omega))]; simp [go_sem, *]
  have k25_4_1 : w25.cell? ⟨w24.heap.size, 1, none⟩ = some (.slice A24 n24 c24) := by rw [(bxcell b25).1 _ _ (by first | omega | (simp; done) | (simp; omega))]; simp [go_sem, *]
  clear k24_0_0 k24_0_1 k24_1_0 k24_1_1 k24_2_0 k24_2_1 k24_3_0 k24_3_1 y24_0 y24_1 y24_2 y24_3
  go_wp2_with fail
  (with_reducible refine (eqInts _ _ rs2 _ (OwnR.here P24 (by repeat' (first | (with_reducible exact Below.refl _ _) | (with_reducible refine Below.alloc ?_ ?_ _) | (with_reducible refine Below.setCell ?_ ?_ _) | (with_reducible refine below_drewN ?_ _) | (with_reducible refine Below.drew ?_) | (with_reducible refine below_step (by assumption) ?_ ?_) | omega | (simp; done) | (simp; omega)))).sl (OwnR.here P4x14x15x18x19 (by repeat' (first | (with_reducible exact Below.refl _ _) | (with_reducible refine Below.alloc ?_ ?_ _) | (with_reducible refine Below.setCell ?_ ?_ _) | (with_reducible refine below_drewN ?_ _) | (with_reducible refine Below.drew ?_) | (with_reducible refine below_step (by assumption) ?_ ?_) | omega | (simp; done) | (simp; omega)))).sl).mono ?_)
  rintro e w26 ⟨rfl, b26⟩
  have z26 := b26.size
  (try simp at z26)
  have y26_0 : w.heap.size < w26.heap.size := by omega
  have y26_1 : w4.heap.size < w26.heap.size := by omega
  have y26_2 : w5.heap.size < w26.heap.size := by omega
  have y26_3 : w7.heap.size < w26.heap.size := by omega
  have y26_4 : w24.heap.size < w26.heap.size := by omega
  have k26_0_0 : w26.cell? ⟨w.heap.size, 0, none⟩ = some (.bool s0) := by rw [(bxcell b26).1 _ _ (by first | omega | (simp; done) | (simp; omega))]; simp [go_sem, *]
  have k26_0_1 : w26.cell? ⟨w.heap.size, 1, none⟩ = some (.slice A0 xs.length c0) := by rw [(bxcell b26).1 _ _ (by first | omega | (simp; done) | (simp; omega))]; simp [go_sem, *]
  have k26_1_0 : w26.cell? ⟨w4.heap.size, 0, none⟩ = some (.bool rs0) := by rw [(bxcell b26).1 _ _ (by first | omega | (simp; done) | (simp; omega))]; simp [go_sem, *]
  have k26_1_1 : w26.cell? ⟨w4.heap.size, 1, none⟩ = some (.slice A4 n4 c4) := by rw [(bxcell b26).1 _ _ (by first | omega | (simp; done) | (simp; omega))]; simp [go_sem, *]
  have k26_2_0 : w26.cell? ⟨w5.heap.size, 0, none⟩ = some (.bool s0) := by rw [(bxcell b26).1 _ _ (by first | omega | (simp; done) | (simp; omega))]; simp [go_sem, *]
  have k26_2_1 : w26.cell? ⟨w5.heap.size, 1, none⟩ = some (.slice A5 n5 c5) := by rw [(bxcell b26).1 _ _ (by first | omega | (simp; done) | (simp; omega))]; simp [go_sem, *]
  have k26_3_0 : w26.cell? ⟨w7.heap.size, 0, none⟩ = some (.bool rs0) := by rw [(bxcell b26).1 _ _ (by first | omega | (simp; done) | (simp; omega))]; simp [go_sem, *]
  have k26_3_1 : w26.cell? ⟨w7.heap.size, 1, none⟩ = some (.slice A7 n7 c7) := by rw [(bxcell b26).1 _ _ (by first | omega | (simp; done) | (simp; omega))]; simp [go_sem, *]
  have k26_4_0 : w26.cell? ⟨w24.heap.size, 0, none⟩ = some (.bool rs0) := by rw [(bxcell b26).1 _ _ (by first | omega | (simp; done) | (simp; omega))]; simp [go_sem, *]
  have k26_4_1 : w26.cell? ⟨w24.heap.size, 1, none⟩ = some (.slice A24 n24 c24) := by rw [(bxcell b26).1 _ _ (by first | omega | (simp; done) | (simp; omega))]; simp [go_sem, *]
  clear k25_0_0 k25_0_1 k25_1_0 k25_1_1 k25_2_0 k25_2_1 k25_3_0 k25_3_1 k25_4_0 k25_4_1 y25_0 y25_1 y25_2 y25_3 y25_4
  go_wp2_with fail
  (with_reducible refine (heldBig rs0 _ _ _ rs1.length (1) _ (OwnR.here O18x19 (by repeat' (first | (with_reducible exact Below.refl _ _) | (with_reducible refine Below.alloc ?_ ?_ _) | (with_reducible refine Below.setCell ?_ ?_ _) | (with_reducible refine below_drewN ?_ _) | (with_reducible refine Below.drew ?_) | (with_reducible refine below_step (by assumption) ?_ ?_) | omega | (simp; done) | (simp; omega)))).sl (by omega) (by omega)).mono ?_)
  rintro e w27 ⟨rfl, b27⟩
  have z27 := b27.size
  (try simp at z27)
  have y27_0 : w.heap.size < w27.heap.size := by omega
  have y27_1 : w4.heap.size < w27.heap.size := by omega
  have y27_2 : w5.heap.size < w27.heap.size := by omega
  have y27_3 : w7.heap.size < w27.heap.size := by omega
  have y27_4 : w24.heap.size < w27.heap.size := by omega
  have k27_0_0 : w27.cell? ⟨w.heap.size, 0, none⟩ = some (.bool s0) := by rw [(bxcell b27).1 _ _ (by first | omega | (simp; done) | (simp; omega))]; simp [go_sem, *]
  have k27_0_1 : w27.cell? ⟨w.heap.size, 1, none⟩ = some (.slice A0 xs.length c0) := by rw [(bxcell b27).1 _ _ (by first | omega | (simp; done) | (simp; omega))]; simp [go_sem, *]
  have k27_1_0 : w27.cell? ⟨w4.heap.size, 0, none⟩ = some (.bool rs0) := by rw [(bxcell b27).1 _ _ (by first | omega | (simp; done) | (simp; omega))]; simp [go_sem, *]
  have k27_1_1 : w27.cell? ⟨w4.heap.size, 1, none⟩ = some (.slice A4 n4 c4) := by rw [(bxcell b27).1 _ _ (by first | omega | (simp; done) | (simp; omega))]; simp [go_sem, *]
  have k27_2_0 : w27.cell? ⟨w5.heap.size, 0, none⟩ = some (.bool s0) := by rw [(bxcell b27).1 _ _ (by first | omega | (simp; done) | (simp; omega))]; simp [go_sem, *]
  have k27_2_1 : w27.cell? ⟨w5.heap.size, 1, none⟩ = some (.slice A5 n5 c5) := by rw [(bxcell b27).1 _ _ (by first | omega | (simp; done) | (simp; omega))]; simp [go_sem, *]
  have k27_3_0 : w27.cell? ⟨w7.heap.size, 0, none⟩ = some (.bool rs0) := by rw [(bxcell b27).1 _ _ (by first | omega | (simp; done) | (simp; omega))]; simp [go_sem, *]
  have k27_3_1 : w27.cell? ⟨w7.heap.size, 1, none⟩ = some (.slice A7 n7 c7) := by rw [(bxcell b27).1 _ _ (by first | omega | (simp; done) | (simp; omega))]; simp [go_sem, *]
  have k27_4_0 : w27.cell? ⟨w24.heap.size, 0, none⟩ = some (.bool rs0) := by rw [(bxcell b27).1 _ _ (by first | omega | (simp; done) | (simp; omega))]; simp [go_sem, *]
  have k27_4_1 : w27.cell? ⟨w24.heap.size, 1, none⟩ = some (.slice A24 n24 c24) := by rw [(bxcell b27).1 _ _ (by first | omega | (simp; done) | (simp; omega))]; simp [go_sem, *]
  clear k26_0_0 k26_0_1 k26_1_0 k26_1_1 k26_2_0 k26_2_1 k26_3_0 k26_3_1 k26_4_0 k26_4_1 y26_0 y26_1 y26_2 y26_3 y26_4
  go_wp2_with fail
  (with_reducible refine (heldInts _ rs2.length ((1 + rs1.length)) _ (OwnR.here O19 (by repeat' (first | (with_reducible exact Below.refl _ _) | (with_reducible refine Below.alloc ?_ ?_ _) | (with_reducible refine Below.setCell ?_ ?_ _) | (with_reducible refine below_drewN ?_ _) | (with_reducible refine Below.drew ?_) | (with_reducible refine below_step (by assumption) ?_ ?_) | omega | (simp; done) | (simp; omega)))).sl (by omega) (by omega)).mono ?_)
  rintro e w28 ⟨rfl, b28⟩
  have z28 := b28.size
  (try simp at z28)
  have y28_0 : w.heap.size < w28.heap.size := by omega
  have y28_1 : w4.heap.size < w28.heap.size := by omega
  have y28_2 : w5.heap.size < w28.heap.size := by omega
  have y28_3 : w7.heap.size < w28.heap.size := by omega
  have y28_4 : w24.heap.size < w28.heap.size := by omega
  have k28_0_0 : w28.cell? ⟨w.heap.size, 0, none⟩ = some (.bool s0) := by rw [(bxcell b28).1 _ _ (by first | omega | (simp; done) | (simp; omega))]; simp [go_sem, *]
  have k28_0_1 : w28.cell? ⟨w.heap.size, 1, none⟩ = some (.slice A0 xs.length c0) := by rw [(bxcell b28).1 _ _ (by first | omega | (simp; done) | (simp; omega))]; simp [go_sem, *]
  have k28_1_0 : w28.cell? ⟨w4.heap.size, 0, none⟩ = some (.bool rs0) := by rw [(bxcell b28).1 _ _ (by first | omega | (simp; done) | (simp; omega))]; simp [go_sem, *]
  have k28_1_1 : w28.cell? ⟨w4.heap.size, 1, none⟩ = some (.slice A4 n4 c4) := by rw [(bxcell b28).1 _ _ (by first | omega | (simp; done) | (simp; omega))]; simp [go_sem, *]
  have k28_2_0 : w28.cell? ⟨w5.heap.size, 0, none⟩ = some (.bool s0) := by rw [(bxcell b28).1 _ _ (by first | omega | (simp; done) | (simp; omega))]; simp [go_sem, *]
  have k28_2_1 : w28.cell? ⟨w5.heap.size, 1, none⟩ = some (.slice A5 n5 c5) := by rw [(bxcell b28).1 _ _ (by first | omega | (simp; done) | (simp; omega))]; simp [go_sem, *]
  have k28_3_0 : w28.cell? ⟨w7.heap.size, 0, none⟩ = some (.bool rs0) := by rw [(bxcell b28).1 _ _ (by first | omega | (simp; done) | (simp; omega))]; simp [go_sem, *]
  have k28_3_1 : w28.cell? ⟨w7.heap.size, 1, none⟩ = some (.slice A7 n7 c7) := by rw [(bxcell b28).1 _ _ (by first | omega | (simp; done) | (simp; omega))]; simp [go_sem, *]
  have k28_4_0 : w28.cell? ⟨w24.heap.size, 0, none⟩ = some (.bool rs0) := by rw [(bxcell b28).1 _ _ (by first | omega | (simp; done) | (simp; omega))]; simp [go_sem, *]
  have k28_4_1 : w28.cell? ⟨w24.heap.size, 1, none⟩ = some (.slice A24 n24 c24) := by rw [(bxcell b28).1 _ _ (by first | omega | (simp; done) | (simp; omega))]; simp [go_sem, *]
  clear k27_0_0 k27_0_1 k27_1_0 k27_1_1 k27_2_0 k27_2_1 k27_3_0 k27_3_1 k27_4_0 k27_4_1 y27_0 y27_1 y27_2 y27_3 y27_4
  go_wp2
  go_ret
  exact ⟨rfl, (by repeat' (first | (with_reducible exact Below.refl _ _) | (with_reducible refine Below.alloc ?_ ?_ _) | (with_reducible refine Below.setCell ?_ ?_ _) | (with_reducible refine below_drewN ?_ _) | (with_reducible refine Below.drew ?_) | (with_reducible refine below_step (by assumption) ?_ ?_) | omega | (simp; done) | (simp; omega)))⟩
theorem fnExactBigIntFloorDiv.own : ownKnob Try.prog.godebug = none := by kernel_rfl
theorem fnExactBigIntFloorDiv.laidOut : laidOutB Try.prog = true := by kernel_rfl
set_option linter.unusedVariables false in
set_option maxRecDepth 100000 in
theorem fnExactBigIntFloorDiv.lifted (os : Os) (started : os.Started) (H : Type) (enc : TypeId × Value → H) :
    ReturnsInHanded {} Try.checked os 4 .any (Rows.fnExactBigIntFloorDivSpec.pre6 enc Try.prog Try.f4 Rows.fnExactBigIntFloorDivRow.domain false) (Rows.fnExactBigIntFloorDivSpec.post enc Try.prog Try.f4 false true false false) := by
  refine returnsInHanded_of_change (C := Try.checked) fnExactBigIntFloorDiv.own started (by kernel_rfl) Try.func4
    (ChangeSpec.witness6 (enc := enc) (C := Try.checked) false ⟨#[], #[.agg #[.bool false, .slice none 0 0], .slice none 0 0], []⟩ 8 (by kernel_rfl) (by kernel_rfl) (by kernel_rfl) (by kernel_rfl)) ?_
  intro W base args ds gs before hval0 hW hcnd _
  have hval : ∀ (j : Nat) t v, Try.f4.params[j]? = some t → args[j]? = some v → Value.okWide Try.prog W .any base t v := hval0
  have hW' := hW
  obtain ⟨p, q, hA0, hV, rfl, hfz, hnd⟩ := hW
  have hA : DataW.TrodAll enc Try.prog W 0 (fun _ => true) true Try.f4.params.toList args.toList ds p := hA0
  rw [Try.params4] at hA hval
  obtain ⟨v0, vs0, d0, ds0, p0, q0, hargs, rfl, rfl, h0, r0⟩ := trodAll_cons hA
  obtain ⟨v1, vs1, d1, ds1, p1, q1, rfl, rfl, rfl, h1, r1⟩ := trodAll_cons r0
  obtain ⟨rfl, rfl, rfl⟩ := trodAll_nil r1
  obtain rfl : args = #[v0, v1] := by cases args; simp_all
  obtain ⟨rfl, rfl⟩ := trodVars_none hV
  have k0 := h0
  have lt0 : ∀ x ∈ p0, x.block < W.heap.size := by obtain ⟨m, hm⟩ := k0; exact DataW.trod_lt m _ _ _ hm
  have k1 := h1
  have lt1 : ∀ x ∈ p1, x.block < W.heap.size := by obtain ⟨m, hm⟩ := k1; exact DataW.trod_lt m _ _ _ hm
  obtain ⟨n0, u0, x0, rfl, s0, f0⟩ := open_bigL Try.underlying31 (by kernel_rfl) (by kernel_rfl) rfl rfl Try.underlying4 Try.underlying22 Try.underlying3 (by kernel_rfl) (hval 0 31 v0 rfl rfl) h0
  obtain ⟨x1, s1, f1⟩ := open_intsL Try.underlying22 Try.underlying3 (by kernel_rfl) (hval 1 22 v1 rfl rfl) h1
  clear hA0 hval0
  refine (walk_FnExactBigIntFloorDiv W n0 u0 x0 s0 f0 v1 x1 s1 f1).mono fun e W' ⟨he, bel⟩ => ?_
  subst he
  exact ⟨_, rfl, _, _, _, [], _, [], hW', trodAll_mk1 (shut_bool Try.underlying4 _), (trodAll_cons_mk (Below.trod fnExactBigIntFloorDiv.laidOut (by kernel_rfl) (of_decide_eq_true (by kernel_rfl)) k0 bel lt0) (trodAll_cons_mk (Below.trod fnExactBigIntFloorDiv.laidOut (by kernel_rfl) (of_decide_eq_true (by kernel_rfl)) k1 bel lt1) trodAll_mk0)), rfl, bel.frame _, fun h => by cases h⟩
theorem fnExactBigIntFloorDiv.over : Rows.fnExactBigIntFloorDivRow.holds Try.pinned (OpenSpec.ofChange Rows.fnExactBigIntFloorDivSpec) :=
  OpenClaim.holds_of_wide 4 Try.f4 rfl rfl rfl rfl rfl rfl rfl ⟨rfl, rfl, rfl, rfl, rfl⟩ rfl rfl rfl rfl rfl (by kernel_rfl) Try.func4 (by kernel_rfl)
    (of_decide_eq_true (by kernel_rfl)) (by unfold Func.isWrapper; first | (rw [if_pos (by decide +kernel)]; kernel_rfl) | (rw [if_neg (by decide +kernel)]; exact ⟨rfl, rfl⟩))
    (fun os started H enc _ => fnExactBigIntFloorDiv.lifted os started H enc)
/-- THE STATEMENT. -/
theorem fnExactBigIntFloorDiv_holds : Rows.FnExactBigIntFloorDivSaid := fnExactBigIntFloorDiv.over
#print axioms fnExactBigIntFloorDiv_holds
end Go.Proofs.Ythbpdlmcpgegpaa
