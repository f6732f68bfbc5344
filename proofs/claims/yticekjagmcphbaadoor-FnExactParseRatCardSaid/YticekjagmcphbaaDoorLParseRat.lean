/-
  FnExactParseRat, proved: for every string the law returns true (the tied card). No further condition. Written by an AI agent.
-/
import Derived.Test.YticekjagmcphbaaDoorParseS
import Derived.Test.YticekjagmcphbaaDoorOpen
import Derived.Test.YticekjagmcphbaaDoorLaid
import Derived.Test.YticekjagmcphbaaDoorCards
import Derived.Test.YticekjagmcphbaaDoorBox
import Derived.Deep.RegionHeld3
import Derived.Deep.DeepCutAuto
namespace Go.Proofs.YticekjagmcphbaaDoor
open Go.ChangeShapes Go.WideShapes Go.ChangeAt Go.RowKit

set_option maxRecDepth 100000 in
set_option maxHeartbeats 8000000 in
theorem walk_FnExactParseRat (w : World) (ht : Tab w) (s : ByteArray) (_l0 : s.size ≤ maxLen) :
    Calls Tryd.prog 8 #[.string s] w fun e w' => e = .returned (.bool true) ∧ Below w.heap.size w w' := by
  have HT := Lib.hid ht
  clear ht
  obtain ⟨rs0, hr⟩ : ∃ x, x = (parseRatF s).1.1 := ⟨_, rfl⟩
  have X0 := Lib.hid hr
  clear hr
  obtain ⟨rs1, hr⟩ : ∃ x, x = (parseRatF s).1.2.1 := ⟨_, rfl⟩
  have hl1 : rs1.length ≤ 2000000 := by rw [hr]; exact Nat.le_trans (pr_len s).1 (by omega)
  have X1 := Lib.hid hr
  clear hr
  obtain ⟨rs2, hr⟩ : ∃ x, x = (parseRatF s).1.2.2 := ⟨_, rfl⟩
  have hl2 : rs2.length ≤ 2000000 := by rw [hr]; exact Nat.le_trans (pr_len s).2 (by omega)
  have X2 := Lib.hid hr
  clear hr
  obtain ⟨rs3, hr⟩ : ∃ x, x = (parseRatF s).2 := ⟨_, rfl⟩
  have hne3 : (rs3 != rs3) = false := by simp
  have X3 := Lib.hid hr
  clear hr
  by_cases hbig0 : 1048576 < s.size
  · go_enter Tryd.func8, Tryd.ntmps8
    go_wp2
    go_ret
    exact ⟨rfl, (by repeat' (first | (with_reducible exact Below.refl _ _) | (with_reducible refine Below.alloc ?_ ?_ _) | (with_reducible refine Below.setCell ?_ ?_ _) | (with_reducible refine below_drewN ?_ _) | (with_reducible refine Below.drew ?_) | (with_reducible refine below_step (by assumption) ?_ ?_) | omega | (simp; done) | (simp; omega)))⟩
  go_enter Tryd.func8, Tryd.ntmps8
  go_wp2_with fail
  (with_reducible refine (spec_ParseRat s _ (by omega) (HT.out.below (by repeat' (first | (with_reducible exact Below.refl _ _) | (with_reducible refine Below.alloc ?_ ?_ _) | (with_reducible refine Below.setCell ?_ ?_ _) | (with_reducible refine below_drewN ?_ _) | (with_reducible refine Below.drew ?_) | (with_reducible refine below_step (by assumption) ?_ ?_) | omega | (simp; done) | (simp; omega))))).mono ?_)
  rintro e w1 ⟨A1, n1, c1, B1, m1, d1, rfl, o1, b1⟩
  rw [← X0.out, ← X3.out]
  rw [← X1.out, ← X2.out] at o1
  have O1 := PairR.wide o1 (lo' := w.heap.size) (by first | omega | (simp; done) | (simp; omega)) (Nat.le_refl _)
  clear o1
  have z1 := b1.size
  (try simp at z1)
  go_wp2_with fail
  (with_reducible refine (impl_ParseRat s _ (by omega) (HT.out.below (by repeat' (first | (with_reducible exact Below.refl _ _) | (with_reducible refine Below.alloc ?_ ?_ _) | (with_reducible refine Below.setCell ?_ ?_ _) | (with_reducible refine below_drewN ?_ _) | (with_reducible refine Below.drew ?_) | (with_reducible refine below_step (by assumption) ?_ ?_) | omega | (simp; done) | (simp; omega))))).mono ?_)
  rintro e w2 ⟨A2, n2, c2, B2, m2, d2, rfl, o2, b2⟩
  rw [← X0.out, ← X3.out]
  rw [← X1.out, ← X2.out] at o2
  have O2 := PairR.wide o2 (lo' := w1.heap.size + 1) (by first | omega | (simp; done) | (simp; omega)) (Nat.le_refl _)
  clear o2
  have z2 := b2.size
  (try simp at z2)
  have y2_0 : w1.heap.size < w2.heap.size := by omega
  have k2_0_0 : w2.cell? ⟨w1.heap.size, 0, none⟩ = some (.bool rs0) := by rw [(bxcell b2).1 _ _ (by first | omega | (simp; done) | (simp; omega))]; simp [go_sem, *]
  have k2_0_1 : w2.cell? ⟨w1.heap.size, 1, none⟩ = some (.slice A1 n1 c1) := by rw [(bxcell b2).1 _ _ (by first | omega | (simp; done) | (simp; omega))]; simp [go_sem, *]
  have k2_0_2 : w2.cell? ⟨w1.heap.size, 2, none⟩ = some (.slice B1 m1 d1) := by rw [(bxcell b2).1 _ _ (by first | omega | (simp; done) | (simp; omega))]; simp [go_sem, *]
  go_wp2_with fail
  (with_reducible refine (eqRat rs0 _ _ _ _ _ _ _ _ _ _ _ _ rs1 rs2 _ (PairR.here O2 (by repeat' (first | (with_reducible exact Below.refl _ _) | (with_reducible refine Below.alloc ?_ ?_ _) | (with_reducible refine Below.setCell ?_ ?_ _) | (with_reducible refine below_drewN ?_ _) | (with_reducible refine Below.drew ?_) | (with_reducible refine below_step (by assumption) ?_ ?_) | omega | (simp; done) | (simp; omega)))).sl1 (PairR.here O2 (by repeat' (first | (with_reducible exact Below.refl _ _) | (with_reducible refine Below.alloc ?_ ?_ _) | (with_reducible refine Below.setCell ?_ ?_ _) | (with_reducible refine below_drewN ?_ _) | (with_reducible refine Below.drew ?_) | (with_reducible refine below_step (by assumption) ?_ ?_) | omega | (simp; done) | (simp; omega)))).sl2 (PairR.here O1 (by repeat' (first | (with_reducible exact Below.refl _ _) | (with_reducible refine Below.alloc ?_ ?_ _) | (with_reducible refine Below.setCell ?_ ?_ _) | (with_reducible refine below_drewN ?_ _) | (with_reducible refine Below.drew ?_) | (with_reducible refine below_step (by assumption) ?_ ?_) | omega | (simp; done) | (simp; omega)))).sl1 (PairR.here O1 (by repeat' (first | (with_reducible exact Below.refl _ _) | (with_reducible refine Below.alloc ?_ ?_ _) | (with_reducible refine Below.setCell ?_ ?_ _) | (with_reducible refine below_drewN ?_ _) | (with_reducible refine Below.drew ?_) | (with_reducible refine below_step (by assumption) ?_ ?_) | omega | (simp; done) | (simp; omega)))).sl2).mono ?_)
  rintro e w3 ⟨rfl, b3⟩
  have z3 := b3.size
  (try simp at z3)
  have y3_0 : w1.heap.size < w3.heap.size := by omega
  have y3_1 : w2.heap.size < w3.heap.size := by omega
  have k3_0_0 : w3.cell? ⟨w1.heap.size, 0, none⟩ = some (.bool rs0) := by rw [(bxcell b3).1 _ _ (by first | omega | (simp; done) | (simp; omega))]; simp [go_sem, *]
  have k3_0_1 : w3.cell? ⟨w1.heap.size, 1, none⟩ = some (.slice A1 n1 c1) := by rw [(bxcell b3).1 _ _ (by first | omega | (simp; done) | (simp; omega))]; simp [go_sem, *]
  have k3_0_2 : w3.cell? ⟨w1.heap.size, 2, none⟩ = some (.slice B1 m1 d1) := by rw [(bxcell b3).1 _ _ (by first | omega | (simp; done) | (simp; omega))]; simp [go_sem, *]
  have k3_1_0 : w3.cell? ⟨w2.heap.size, 0, none⟩ = some (.bool rs0) := by rw [(bxcell b3).1 _ _ (by first | omega | (simp; done) | (simp; omega))]; simp [go_sem, *]
  have k3_1_1 : w3.cell? ⟨w2.heap.size, 1, none⟩ = some (.slice A2 n2 c2) := by rw [(bxcell b3).1 _ _ (by first | omega | (simp; done) | (simp; omega))]; simp [go_sem, *]
  have k3_1_2 : w3.cell? ⟨w2.heap.size, 2, none⟩ = some (.slice B2 m2 d2) := by rw [(bxcell b3).1 _ _ (by first | omega | (simp; done) | (simp; omega))]; simp [go_sem, *]
  clear k2_0_0 k2_0_1 k2_0_2 y2_0
  go_wp2_with fail
  (with_reducible refine (markRat rs0 _ _ _ _ _ _ rs1 rs2 (1) (w1.heap.size + 1) (w2.heap.size) _ (PairR.here O2 (by repeat' (first | (with_reducible exact Below.refl _ _) | (with_reducible refine Below.alloc ?_ ?_ _) | (with_reducible refine Below.setCell ?_ ?_ _) | (with_reducible refine below_drewN ?_ _) | (with_reducible refine Below.drew ?_) | (with_reducible refine below_step (by assumption) ?_ ?_) | omega | (simp; done) | (simp; omega)))) (by omega) (by omega) (by omega) (by omega)).mono ?_)
  rintro e w4 ⟨rfl, O4, fr4, b4⟩
  have O1x4 := PairR.across O1 (by repeat' (first | (with_reducible exact Below.refl _ _) | (with_reducible refine Below.alloc ?_ ?_ _) | (with_reducible refine Below.setCell ?_ ?_ _) | (with_reducible refine below_drewN ?_ _) | (with_reducible refine Below.drew ?_) | (with_reducible refine below_step (by assumption) ?_ ?_) | omega | (simp; done) | (simp; omega))) fr4 (by omega)
  clear O1
  have z4 := b4.size
  (try simp at z4)
  have y4_0 : w1.heap.size < w4.heap.size := by omega
  have y4_1 : w2.heap.size < w4.heap.size := by omega
  have k4_0_0 : w4.cell? ⟨w1.heap.size, 0, none⟩ = some (.bool rs0) := by rw [fr4.cell (by first | omega | (simp; done) | (simp; omega)) (by omega)]; simp [go_sem, *]
  have k4_0_1 : w4.cell? ⟨w1.heap.size, 1, none⟩ = some (.slice A1 n1 c1) := by rw [fr4.cell (by first | omega | (simp; done) | (simp; omega)) (by omega)]; simp [go_sem, *]
  have k4_0_2 : w4.cell? ⟨w1.heap.size, 2, none⟩ = some (.slice B1 m1 d1) := by rw [fr4.cell (by first | omega | (simp; done) | (simp; omega)) (by omega)]; simp [go_sem, *]
  have k4_1_0 : w4.cell? ⟨w2.heap.size, 0, none⟩ = some (.bool rs0) := by rw [fr4.cell (by first | omega | (simp; done) | (simp; omega)) (by omega)]; simp [go_sem, *]
  have k4_1_1 : w4.cell? ⟨w2.heap.size, 1, none⟩ = some (.slice A2 n2 c2) := by rw [fr4.cell (by first | omega | (simp; done) | (simp; omega)) (by omega)]; simp [go_sem, *]
  have k4_1_2 : w4.cell? ⟨w2.heap.size, 2, none⟩ = some (.slice B2 m2 d2) := by rw [fr4.cell (by first | omega | (simp; done) | (simp; omega)) (by omega)]; simp [go_sem, *]
  clear k3_0_0 k3_0_1 k3_0_2 k3_1_0 k3_1_1 k3_1_2 y3_0 y3_1
  go_wp2_with fail
  (with_reducible refine (heldRat rs0 _ _ _ _ _ _ rs1.length rs2.length (1) _ (PairR.here O4 (by repeat' (first | (with_reducible exact Below.refl _ _) | (with_reducible refine Below.alloc ?_ ?_ _) | (with_reducible refine Below.setCell ?_ ?_ _) | (with_reducible refine below_drewN ?_ _) | (with_reducible refine Below.drew ?_) | (with_reducible refine below_step (by assumption) ?_ ?_) | omega | (simp; done) | (simp; omega)))).sl1 (PairR.here O4 (by repeat' (first | (with_reducible exact Below.refl _ _) | (with_reducible refine Below.alloc ?_ ?_ _) | (with_reducible refine Below.setCell ?_ ?_ _) | (with_reducible refine below_drewN ?_ _) | (with_reducible refine Below.drew ?_) | (with_reducible refine below_step (by assumption) ?_ ?_) | omega | (simp; done) | (simp; omega)))).sl2 (by omega) (by omega)).mono ?_)
  rintro e w5 ⟨rfl, b5⟩
  have z5 := b5.size
  (try simp at z5)
  have y5_0 : w1.heap.size < w5.heap.size := by omega
  have y5_1 : w2.heap.size < w5.heap.size := by omega
  have k5_0_0 : w5.cell? ⟨w1.heap.size, 0, none⟩ = some (.bool rs0) := by rw [(bxcell b5).1 _ _ (by first | omega | (simp; done) | (simp; omega))]; simp [go_sem, *]
  have k5_0_1 : w5.cell? ⟨w1.heap.size, 1, none⟩ = some (.slice A1 n1 c1) := by rw [(bxcell b5).1 _ _ (by first | omega | (simp; done) | (simp; omega))]; simp [go_sem, *]
  have k5_0_2 : w5.cell? ⟨w1.heap.size, 2, none⟩ = some (.slice B1 m1 d1) := by rw [(bxcell b5).1 _ _ (by first | omega | (simp; done) | (simp; omega))]; simp [go_sem, *]
  have k5_1_0 : w5.cell? ⟨w2.heap.size, 0, none⟩ = some (.bool rs0) := by rw [(bxcell b5).1 _ _ (by first | omega | (simp; done) | (simp; omega))]; simp [go_sem, *]
  have k5_1_1 : w5.cell? ⟨w2.heap.size, 1, none⟩ = some (.slice A2 n2 c2) := by rw [(bxcell b5).1 _ _ (by first | omega | (simp; done) | (simp; omega))]; simp [go_sem, *]
  have k5_1_2 : w5.cell? ⟨w2.heap.size, 2, none⟩ = some (.slice B2 m2 d2) := by rw [(bxcell b5).1 _ _ (by first | omega | (simp; done) | (simp; omega))]; simp [go_sem, *]
  clear k4_0_0 k4_0_1 k4_0_2 k4_1_0 k4_1_1 k4_1_2 y4_0 y4_1
  go_wp2_with fail
  (with_reducible refine (impl_ParseRat s _ (by omega) (HT.out.below (by repeat' (first | (with_reducible exact Below.refl _ _) | (with_reducible refine Below.alloc ?_ ?_ _) | (with_reducible refine Below.setCell ?_ ?_ _) | (with_reducible refine below_drewN ?_ _) | (with_reducible refine Below.drew ?_) | (with_reducible refine below_step (by assumption) ?_ ?_) | omega | (simp; done) | (simp; omega))))).mono ?_)
  rintro e w6 ⟨A6, n6, c6, B6, m6, d6, rfl, o6, b6⟩
  rw [← X0.out, ← X3.out]
  rw [← X1.out, ← X2.out] at o6
  have O6 := PairR.wide o6 (lo' := w5.heap.size) (by first | omega | (simp; done) | (simp; omega)) (Nat.le_refl _)
  clear o6
  have z6 := b6.size
  (try simp at z6)
  have y6_0 : w1.heap.size < w6.heap.size := by omega
  have y6_1 : w2.heap.size < w6.heap.size := by omega
  have k6_0_0 : w6.cell? ⟨w1.heap.size, 0, none⟩ = some (.bool rs0) := by rw [(bxcell b6).1 _ _ (by first | omega | (simp; done) | (simp; omega))]; simp [go_sem, *]
  have k6_0_1 : w6.cell? ⟨w1.heap.size, 1, none⟩ = some (.slice A1 n1 c1) := by rw [(bxcell b6).1 _ _ (by first | omega | (simp; done) | (simp; omega))]; simp [go_sem, *]
  have k6_0_2 : w6.cell? ⟨w1.heap.size, 2, none⟩ = some (.slice B1 m1 d1) := by rw [(bxcell b6).1 _ _ (by first | omega | (simp; done) | (simp; omega))]; simp [go_sem, *]
  have k6_1_0 : w6.cell? ⟨w2.heap.size, 0, none⟩ = some (.bool rs0) := by rw [(bxcell b6).1 _ _ (by first | omega | (simp; done) | (simp; omega))]; simp [go_sem, *]
  have k6_1_1 : w6.cell? ⟨w2.heap.size, 1, none⟩ = some (.slice A2 n2 c2) := by rw [(bxcell b6).1 _ _ (by first | omega | (simp; done) | (simp; omega))]; simp [go_sem, *]
  have k6_1_2 : w6.cell? ⟨w2.heap.size, 2, none⟩ = some (.slice B2 m2 d2) := by rw [(bxcell b6).1 _ _ (by first | omega | (simp; done) | (simp; omega))]; simp [go_sem, *]
  clear k5_0_0 k5_0_1 k5_0_2 k5_1_0 k5_1_1 k5_1_2 y5_0 y5_1
  go_wp2_with fail
  (with_reducible refine (eqRat rs0 _ _ _ _ _ _ _ _ _ _ _ _ rs1 rs2 _ (PairR.here O6 (by repeat' (first | (with_reducible exact Below.refl _ _) | (with_reducible refine Below.alloc ?_ ?_ _) | (with_reducible refine Below.setCell ?_ ?_ _) | (with_reducible refine below_drewN ?_ _) | (with_reducible refine Below.drew ?_) | (with_reducible refine below_step (by assumption) ?_ ?_) | omega | (simp; done) | (simp; omega)))).sl1 (PairR.here O6 (by repeat' (first | (with_reducible exact Below.refl _ _) | (with_reducible refine Below.alloc ?_ ?_ _) | (with_reducible refine Below.setCell ?_ ?_ _) | (with_reducible refine below_drewN ?_ _) | (with_reducible refine Below.drew ?_) | (with_reducible refine below_step (by assumption) ?_ ?_) | omega | (simp; done) | (simp; omega)))).sl2 (PairR.here O1x4 (by repeat' (first | (with_reducible exact Below.refl _ _) | (with_reducible refine Below.alloc ?_ ?_ _) | (with_reducible refine Below.setCell ?_ ?_ _) | (with_reducible refine below_drewN ?_ _) | (with_reducible refine Below.drew ?_) | (with_reducible refine below_step (by assumption) ?_ ?_) | omega | (simp; done) | (simp; omega)))).sl1 (PairR.here O1x4 (by repeat' (first | (with_reducible exact Below.refl _ _) | (with_reducible refine Below.alloc ?_ ?_ _) | (with_reducible refine Below.setCell ?_ ?_ _) | (with_reducible refine below_drewN ?_ _) | (with_reducible refine Below.drew ?_) | (with_reducible refine below_step (by assumption) ?_ ?_) | omega | (simp; done) | (simp; omega)))).sl2).mono ?_)
  rintro e w7 ⟨rfl, b7⟩
  have z7 := b7.size
  (try simp at z7)
  have y7_0 : w1.heap.size < w7.heap.size := by omega
  have y7_1 : w2.heap.size < w7.heap.size := by omega
  have y7_2 : w6.heap.size < w7.heap.size := by omega
  have k7_0_0 : w7.cell? ⟨w1.heap.size, 0, none⟩ = some (.bool rs0) := by rw [(bxcell b7).1 _ _ (by first | omega | (simp; done) | (simp; omega))]; simp [go_sem, *]
  have k7_0_1 : w7.cell? ⟨w1.heap.size, 1, none⟩ = some (.slice A1 n1 c1) := by rw [(bxcell b7).1 _ _ (by first | omega | (simp; done) | (simp; omega))]; simp [go_sem, *]
  have k7_0_2 : w7.cell? ⟨w1.heap.size, 2, none⟩ = some (.slice B1 m1 d1) := by rw [(bxcell b7).1 _ _ (by first | omega | (simp; done) | (simp; omega))]; simp [go_sem, *]
  have k7_1_0 : w7.cell? ⟨w2.heap.size, 0, none⟩ = some (.bool rs0) := by rw [(bxcell b7).1 _ _ (by first | omega | (simp; done) | (simp; omega))]; simp [go_sem, *]
  have k7_1_1 : w7.cell? ⟨w2.heap.size, 1, none⟩ = some (.slice A2 n2 c2) := by rw [(bxcell b7).1 _ _ (by first | omega | (simp; done) | (simp; omega))]; simp [go_sem, *]
  have k7_1_2 : w7.cell? ⟨w2.heap.size, 2, none⟩ = some (.slice B2 m2 d2) := by rw [(bxcell b7).1 _ _ (by first | omega | (simp; done) | (simp; omega))]; simp [go_sem, *]
  have k7_2_0 : w7.cell? ⟨w6.heap.size, 0, none⟩ = some (.bool rs0) := by rw [(bxcell b7).1 _ _ (by first | omega | (simp; done) | (simp; omega))]; simp [go_sem, *]
  have k7_2_1 : w7.cell? ⟨w6.heap.size, 1, none⟩ = some (.slice A6 n6 c6) := by rw [(bxcell b7).1 _ _ (by first | omega | (simp; done) | (simp; omega))]; simp [go_sem, *]
  have k7_2_2 : w7.cell? ⟨w6.heap.size, 2, none⟩ = some (.slice B6 m6 d6) := by rw [(bxcell b7).1 _ _ (by first | omega | (simp; done) | (simp; omega))]; simp [go_sem, *]
  clear k6_0_0 k6_0_1 k6_0_2 k6_1_0 k6_1_1 k6_1_2 y6_0 y6_1
  go_wp2_with fail
  (with_reducible refine (heldRat rs0 _ _ _ _ _ _ rs1.length rs2.length (1) _ (PairR.here O4 (by repeat' (first | (with_reducible exact Below.refl _ _) | (with_reducible refine Below.alloc ?_ ?_ _) | (with_reducible refine Below.setCell ?_ ?_ _) | (with_reducible refine below_drewN ?_ _) | (with_reducible refine Below.drew ?_) | (with_reducible refine below_step (by assumption) ?_ ?_) | omega | (simp; done) | (simp; omega)))).sl1 (PairR.here O4 (by repeat' (first | (with_reducible exact Below.refl _ _) | (with_reducible refine Below.alloc ?_ ?_ _) | (with_reducible refine Below.setCell ?_ ?_ _) | (with_reducible refine below_drewN ?_ _) | (with_reducible refine Below.drew ?_) | (with_reducible refine below_step (by assumption) ?_ ?_) | omega | (simp; done) | (simp; omega)))).sl2 (by omega) (by omega)).mono ?_)
  rintro e w8 ⟨rfl, b8⟩
  have z8 := b8.size
  (try simp at z8)
  have y8_0 : w1.heap.size < w8.heap.size := by omega
  have y8_1 : w2.heap.size < w8.heap.size := by omega
  have y8_2 : w6.heap.size < w8.heap.size := by omega
  have k8_0_0 : w8.cell? ⟨w1.heap.size, 0, none⟩ = some (.bool rs0) := by rw [(bxcell b8).1 _ _ (by first | omega | (simp; done) | (simp; omega))]; simp [go_sem, *]
  have k8_0_1 : w8.cell? ⟨w1.heap.size, 1, none⟩ = some (.slice A1 n1 c1) := by rw [(bxcell b8).1 _ _ (by first | omega | (simp; done) | (simp; omega))]; simp [go_sem, *]
  have k8_0_2 : w8.cell? ⟨w1.heap.size, 2, none⟩ = some (.slice B1 m1 d1) := by rw [(bxcell b8).1 _ _ (by first | omega | (simp; done) | (simp; omega))]; simp [go_sem, *]
  have k8_1_0 : w8.cell? ⟨w2.heap.size, 0, none⟩ = some (.bool rs0) := by rw [(bxcell b8).1 _ _ (by first | omega | (simp; done) | (simp; omega))]; simp [go_sem, *]
  have k8_1_1 : w8.cell? ⟨w2.heap.size, 1, none⟩ = some (.slice A2 n2 c2) := by rw [(bxcell b8).1 _ _ (by first | omega | (simp; done) | (simp; omega))]; simp [go_sem, *]
  have k8_1_2 : w8.cell? ⟨w2.heap.size, 2, none⟩ = some (.slice B2 m2 d2) := by rw [(bxcell b8).1 _ _ (by first | omega | (simp; done) | (simp; omega))]; simp [go_sem, *]
  have k8_2_0 : w8.cell? ⟨w6.heap.size, 0, none⟩ = some (.bool rs0) := by rw [(bxcell b8).1 _ _ (by first | omega | (simp; done) | (simp; omega))]; simp [go_sem, *]
  have k8_2_1 : w8.cell? ⟨w6.heap.size, 1, none⟩ = some (.slice A6 n6 c6) := by rw [(bxcell b8).1 _ _ (by first | omega | (simp; done) | (simp; omega))]; simp [go_sem, *]
  have k8_2_2 : w8.cell? ⟨w6.heap.size, 2, none⟩ = some (.slice B6 m6 d6) := by rw [(bxcell b8).1 _ _ (by first | omega | (simp; done) | (simp; omega))]; simp [go_sem, *]
  clear k7_0_0 k7_0_1 k7_0_2 k7_1_0 k7_1_1 k7_1_2 k7_2_0 k7_2_1 k7_2_2 y7_0 y7_1 y7_2
  go_wp2
  go_ret
  exact ⟨rfl, (by repeat' (first | (with_reducible exact Below.refl _ _) | (with_reducible refine Below.alloc ?_ ?_ _) | (with_reducible refine Below.setCell ?_ ?_ _) | (with_reducible refine below_drewN ?_ _) | (with_reducible refine Below.drew ?_) | (with_reducible refine below_step (by assumption) ?_ ?_) | omega | (simp; done) | (simp; omega)))⟩
theorem fnExactParseRat.own : ownKnob Tryd.prog.godebug = none := by kernel_rfl
theorem fnExactParseRat.laidOut : laidOutB Tryd.prog = true := by kernel_rfl
set_option linter.unusedVariables false in
set_option maxRecDepth 100000 in
theorem fnExactParseRat.lifted (os : Os) (started : os.Started) (H : Type) (enc : TypeId × Value → H) :
    ReturnsInHanded {} Tryd.checked os 8 .any (fun w args => (Rows.fnExactParseRatSpec.pre enc Tryd.prog Tryd.f8 [] false w args ∧ laidMetH Tryd.prog laid3 w) ∧ sizedMet enc Tryd.prog Tryd.f8 (OpenSpec.ofChange Rows.fnExactParseRatSpec) false w args)
      (Rows.fnExactParseRatSpec.post enc Tryd.prog Tryd.f8 false true false false) := by
  refine returnsInHanded_of_change_and (C := Tryd.checked) (X := fun w _ => laidMetH Tryd.prog laid3 w) (fun _ _ _ hh h => h.of_heap hh) fnExactParseRat.own started (by kernel_rfl) Tryd.func8
    (ChangeSpec.witness_shaped (enc := enc) (C := Tryd.checked) (os := os) (X := fun w _ => laidMetH Tryd.prog laid3 w) false (World.doorLaid Tryd.prog 4000 os) #[.string ByteArray.empty] 8 rfl (World.shaped_of_RefB (by kernel_rfl) (by kernel_rfl)) (by kernel_rfl) (by kernel_rfl) (by kernel_rfl) (door_met3 os _)) ?_
  intro W base args ds gs before hval0 hW _ _ hL _
  have hval : ∀ (j : Nat) t v, Tryd.f8.params[j]? = some t → args[j]? = some v → Value.okWide Tryd.prog W .any base t v := hval0
  have hW' := hW
  obtain ⟨p, q, hA0, hV, rfl, hfz, hnd⟩ := hW
  have hA : DataW.TrodAll enc Tryd.prog W 0 (fun _ => true) true Tryd.f8.params.toList args.toList ds p := hA0
  rw [Tryd.params8] at hA hval
  obtain ⟨v0, vs0, d0, ds0, p0, q0, hargs, rfl, rfl, h0, r0⟩ := trodAll_cons hA
  obtain ⟨rfl, rfl, rfl⟩ := trodAll_nil r0
  obtain rfl : args = #[v0] := by cases args; simp_all
  obtain ⟨rfl, rfl⟩ := trodVars_none hV
  have k0 := h0
  have lt0 : ∀ x ∈ p0, x.block < W.heap.size := by obtain ⟨m, hm⟩ := k0; exact DataW.trod_lt m _ _ _ hm
  obtain ⟨a0, rfl, l0⟩ := open_strL Tryd.underlying9 (hval 0 9 v0 rfl rfl) h0
  clear hA0 hval0
  refine (walk_FnExactParseRat W (tab_of_laid3 hL) a0 l0).mono fun e W' ⟨he, bel⟩ => ?_
  subst he
  exact ⟨_, rfl, _, _, _, [], _, [], hW', trodAll_mk1 (shut_bool Tryd.underlying4 _), (trodAll_cons_mk (Below.trod fnExactParseRat.laidOut (by kernel_rfl) (of_decide_eq_true (by kernel_rfl)) k0 bel lt0) trodAll_mk0), rfl, bel.frame _, fun h => by cases h⟩
theorem fnExactParseRat.over : Rows.fnExactParseRatRow.holds Tryd.pinned (OpenSpec.ofChange Rows.fnExactParseRatSpec) :=
  OpenClaim.holds_of_wide 8 Tryd.f8 rfl rfl rfl rfl rfl rfl rfl ⟨rfl, rfl, rfl, rfl, rfl⟩ rfl rfl rfl rfl rfl (by kernel_rfl) Tryd.func8 (by kernel_rfl)
    (of_decide_eq_true (by kernel_rfl)) (by unfold Func.isWrapper; first | (rw [if_pos (by decide +kernel)]; kernel_rfl) | (rw [if_neg (by decide +kernel)]; exact ⟨rfl, rfl⟩))
    (fun os started H enc _ => fnExactParseRat.lifted os started H enc)
/-- THE STATEMENT: the tied card. -/
theorem fnExactParseRat_holds : Rows.FnExactParseRatCardSaid :=
  Claim7.holds_tied_plain_at .later [] [.data, .data, .data] true Rows.fnExactParseRatCard.stood.harness true
    fnExactParseRat.over (fun _ h => by cases h) (by kernel_rfl) (fun _ h => by cases h) fnExactParseRat_row_tie rfl ⟨rfl, rfl⟩ (by kernel_rfl) rfl
    (fun f fn hf hfn => by
      obtain rfl : f = 8 := Option.some.inj ((show Tryd.prog.funcNamed Rows.fnExactParseRatRow.func = some 8 by kernel_rfl).symm.trans hf) |>.symm
      obtain rfl : fn = Tryd.f8 := (Option.some.inj (Tryd.func8.symm.trans hfn)).symm
      exact ⟨by kernel_rfl, fun j t ht => by
        rw [Tryd.params8] at ht
        have hm : t ∈ ([9] : List TypeId) := by simpa using Array.mem_of_getElem? ht
        have hall : (([9] : List TypeId).all fun u => !Tryd.prog.wantsStandIn u) = true := by kernel_rfl
        exact (show Tryd.prog.wantsStandIn t = false by simpa using List.all_eq_true.1 hall t hm)⟩)
    (by kernel_rfl)
#print axioms fnExactParseRat_holds
end Go.Proofs.YticekjagmcphbaaDoor
