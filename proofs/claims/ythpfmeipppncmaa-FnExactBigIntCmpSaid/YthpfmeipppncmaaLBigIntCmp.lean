/-
  FnExactBigIntCmp, proved: for all two big ints the law returns true. No further condition. Written by an AI agent.
-/
import Derived.Test.YthpfmeipppncmaaBigZF
import Derived.Test.YthpfmeipppncmaaOpen
import Derived.Test.YthpfmeipppncmaaRat
import Derived.Deep.RegionHeld3
import Derived.Deep.DeepCutAuto
namespace Go.Proofs.Ythpfmeipppncmaa
open Go.ChangeShapes Go.WideShapes Go.ChangeAt Go.RowKit

set_option maxHeartbeats 8000000 in
theorem walk_FnExactBigIntCmp (w : World) (s0 : Bool) (v0 : Value) (xs : List Int) (h0 : Sl w v0 xs) (_f0 : Wf xs) (s1 : Bool) (v1 : Value) (ys : List Int) (h1 : Sl w v1 ys) (_f1 : Wf ys) :
    Calls Try.prog 10 #[.agg #[.bool s0, v0], .agg #[.bool s1, v1]] w fun e w' => e = .returned (.bool true) ∧ Below w.heap.size w w' := by
  have S0 := Lib.hid h0
  clear _f0
  obtain ⟨A0, c0, rfl, p1, p2, p3⟩ := h0
  have hm0 : xs.length ≤ 9223372036854775807 := by unfold maxLen at p2; omega
  clear p1 p2 p3
  have S1 := Lib.hid h1
  clear _f1
  obtain ⟨A1, c1, rfl, p1, p2, p3⟩ := h1
  have hm1 : ys.length ≤ 9223372036854775807 := by unfold maxLen at p2; omega
  clear p1 p2 p3
  obtain ⟨rs0, hr⟩ : ∃ x, x = bigCmpF s0 s1 xs ys := ⟨_, rfl⟩
  have hne0 : (rs0 != rs0) = false := by simp
  have X0 := Lib.hid hr
  clear hr
  go_enter Try.func10, Try.ntmps10
  go_wp2_with fail
  (with_reducible refine (laws_szBigR s0 A0 xs.length c0 (1048576) _ hm0 (by omega) (by omega)).mono ?_)
  rintro e w1 ⟨t1, rfl, ht1, b1⟩
  rcases ht1 with rfl | ⟨ha1, hb1⟩
  · go_wp2
    go_ret
    exact ⟨rfl, (by repeat' (first | (with_reducible exact Below.refl _ _) | (with_reducible refine Below.alloc ?_ ?_ _) | (with_reducible refine Below.setCell ?_ ?_ _) | (with_reducible refine below_drewN ?_ _) | (with_reducible refine Below.drew ?_) | (with_reducible refine below_step (by assumption) ?_ ?_) | omega | (simp; done) | (simp; omega)))⟩
  have z1 := b1.size
  (try simp at z1)
  have y1_0 : w.heap.size < w1.heap.size := by omega
  have y1_1 : w.heap.size + 1 < w1.heap.size := by omega
  have k1_0_0 : w1.cell? ⟨w.heap.size, 0, none⟩ = some (.bool s0) := by rw [(bxcell b1).1 _ _ (by first | omega | (simp; done) | (simp; omega))]; simp [go_sem, *]
  have k1_0_1 : w1.cell? ⟨w.heap.size, 1, none⟩ = some (.slice A0 xs.length c0) := by rw [(bxcell b1).1 _ _ (by first | omega | (simp; done) | (simp; omega))]; simp [go_sem, *]
  have k1_1_0 : w1.cell? ⟨w.heap.size + 1, 0, none⟩ = some (.bool s1) := by rw [(bxcell b1).1 _ _ (by first | omega | (simp; done) | (simp; omega))]; simp [go_sem, *]
  have k1_1_1 : w1.cell? ⟨w.heap.size + 1, 1, none⟩ = some (.slice A1 ys.length c1) := by rw [(bxcell b1).1 _ _ (by first | omega | (simp; done) | (simp; omega))]; simp [go_sem, *]
  go_wp2_with fail
  (with_reducible refine (laws_szBigR s1 A1 ys.length c1 (t1) _ hm1 (by omega) (by omega)).mono ?_)
  rintro e w2 ⟨t2, rfl, ht2, b2⟩
  rcases ht2 with rfl | ⟨ha2, hb2⟩
  · go_wp2
    go_ret
    exact ⟨rfl, (by repeat' (first | (with_reducible exact Below.refl _ _) | (with_reducible refine Below.alloc ?_ ?_ _) | (with_reducible refine Below.setCell ?_ ?_ _) | (with_reducible refine below_drewN ?_ _) | (with_reducible refine Below.drew ?_) | (with_reducible refine below_step (by assumption) ?_ ?_) | omega | (simp; done) | (simp; omega)))⟩
  have z2 := b2.size
  (try simp at z2)
  have y2_0 : w.heap.size < w2.heap.size := by omega
  have y2_1 : w.heap.size + 1 < w2.heap.size := by omega
  have k2_0_0 : w2.cell? ⟨w.heap.size, 0, none⟩ = some (.bool s0) := by rw [(bxcell b2).1 _ _ (by first | omega | (simp; done) | (simp; omega))]; simp [go_sem, *]
  have k2_0_1 : w2.cell? ⟨w.heap.size, 1, none⟩ = some (.slice A0 xs.length c0) := by rw [(bxcell b2).1 _ _ (by first | omega | (simp; done) | (simp; omega))]; simp [go_sem, *]
  have k2_1_0 : w2.cell? ⟨w.heap.size + 1, 0, none⟩ = some (.bool s1) := by rw [(bxcell b2).1 _ _ (by first | omega | (simp; done) | (simp; omega))]; simp [go_sem, *]
  have k2_1_1 : w2.cell? ⟨w.heap.size + 1, 1, none⟩ = some (.slice A1 ys.length c1) := by rw [(bxcell b2).1 _ _ (by first | omega | (simp; done) | (simp; omega))]; simp [go_sem, *]
  clear k1_0_0 k1_0_1 k1_1_0 k1_1_1 y1_0 y1_1
  go_wp2_with fail
  go_region_held3 (fun w' => w'.cell? ⟨w.heap.size, 0, none⟩ = some (.bool s0) ∧ w'.cell? ⟨w.heap.size, 1, none⟩ = some (.slice A0 xs.length c0) ∧ w'.cell? ⟨w.heap.size + 1, 0, none⟩ = some (.bool s1) ∧ w'.cell? ⟨w.heap.size + 1, 1, none⟩ = some (.slice A1 ys.length c1)) (go_keep)
    (first
      | (go_at_call 36; (with_reducible refine (laws_toBigInt s0 A0 _ c0 xs _ (S0.out.below (by repeat' (first | (with_reducible exact Below.refl _ _) | (with_reducible refine Below.alloc ?_ ?_ _) | (with_reducible refine Below.setCell ?_ ?_ _) | (with_reducible refine below_drewN ?_ _) | (with_reducible refine Below.drew ?_) | (with_reducible refine below_step (by assumption) ?_ ?_) | omega | (simp; done) | (simp; omega)))) (by omega)).mono ?_); rintro e w3 ⟨A3, n3, c3, rfl, o3, b3⟩; obtain ⟨hc3, hf3⟩ := bxcell b3; have q3_0 := fun o => hc3 (w.heap.size) o (by first | omega | (simp; done) | (simp; omega)); have q3_1 := fun o => hc3 (w.heap.size + 1) o (by first | omega | (simp; done) | (simp; omega)); have z3 := b3.size; (try simp at z3); have O3 := OwnR.wide (OwnR.of o3) (lo' := w2.heap.size) (by first | omega | (simp; done) | (simp; omega)) (Nat.le_refl _); clear o3)
      | (go_at_call 36; (with_reducible refine (laws_toBigInt s1 A1 _ c1 ys _ (S1.out.below (by repeat' (first | (with_reducible exact Below.refl _ _) | (with_reducible refine Below.alloc ?_ ?_ _) | (with_reducible refine Below.setCell ?_ ?_ _) | (with_reducible refine below_drewN ?_ _) | (with_reducible refine Below.drew ?_) | (with_reducible refine below_step (by assumption) ?_ ?_) | omega | (simp; done) | (simp; omega)))) (by omega)).mono ?_); rintro e w4 ⟨A4, n4, c4, rfl, o4, b4⟩; obtain ⟨hc4, hf4⟩ := bxcell b4; have q4_0 := fun o => hc4 (w.heap.size) o (by first | omega | (simp; done) | (simp; omega)); have q4_1 := fun o => hc4 (w.heap.size + 1) o (by first | omega | (simp; done) | (simp; omega)); have z4 := b4.size; (try simp at z4); have O4 := OwnR.wide (OwnR.of o4) (lo' := w3.heap.size) (by first | omega | (simp; done) | (simp; omega)) (Nat.le_refl _); clear o4)
      | (go_at_call 41; (with_reducible refine (spec_BigIntCmp s0 s1 _ _ _ _ _ _ xs ys _ (OwnR.here O3 (by repeat' (first | (with_reducible exact Below.refl _ _) | (with_reducible refine Below.alloc ?_ ?_ _) | (with_reducible refine Below.setCell ?_ ?_ _) | (with_reducible refine below_drewN ?_ _) | (with_reducible refine Below.drew ?_) | (with_reducible refine below_step (by assumption) ?_ ?_) | omega | (simp; done) | (simp; omega)))).sl (OwnR.here O4 (by repeat' (first | (with_reducible exact Below.refl _ _) | (with_reducible refine Below.alloc ?_ ?_ _) | (with_reducible refine Below.setCell ?_ ?_ _) | (with_reducible refine below_drewN ?_ _) | (with_reducible refine Below.drew ?_) | (with_reducible refine below_step (by assumption) ?_ ?_) | omega | (simp; done) | (simp; omega)))).sl).mono ?_); rintro e w5 ⟨rfl, b5⟩; obtain ⟨hc5, hf5⟩ := bxcell b5; have q5_0 := fun o => hc5 (w.heap.size) o (by first | omega | (simp; done) | (simp; omega)); have q5_1 := fun o => hc5 (w.heap.size + 1) o (by first | omega | (simp; done) | (simp; omega)); have z5 := b5.size; (try simp at z5); rw [← X0.out]))
  have z5 := b5.size
  (try simp at z5)
  have y5_0 : w.heap.size < w5.heap.size := by omega
  have y5_1 : w.heap.size + 1 < w5.heap.size := by omega
  have k5_0_0 : w5.cell? ⟨w.heap.size, 0, none⟩ = some (.bool s0) := by rw [(bxcell b5).1 _ _ (by first | omega | (simp; done) | (simp; omega))]; simp [go_sem, *]
  have k5_0_1 : w5.cell? ⟨w.heap.size, 1, none⟩ = some (.slice A0 xs.length c0) := by rw [(bxcell b5).1 _ _ (by first | omega | (simp; done) | (simp; omega))]; simp [go_sem, *]
  have k5_1_0 : w5.cell? ⟨w.heap.size + 1, 0, none⟩ = some (.bool s1) := by rw [(bxcell b5).1 _ _ (by first | omega | (simp; done) | (simp; omega))]; simp [go_sem, *]
  have k5_1_1 : w5.cell? ⟨w.heap.size + 1, 1, none⟩ = some (.slice A1 ys.length c1) := by rw [(bxcell b5).1 _ _ (by first | omega | (simp; done) | (simp; omega))]; simp [go_sem, *]
  clear k2_0_0 k2_0_1 k2_1_0 k2_1_1 y2_0 y2_1 hc3 hf3 q3_0 q3_1 hc4 hf4 q4_0 q4_1 hc5 hf5 q5_0 q5_1
  go_wp2_with fail
  (with_reducible refine (laws_toBigInt s0 A0 _ c0 xs _ (S0.out.below (by repeat' (first | (with_reducible exact Below.refl _ _) | (with_reducible refine Below.alloc ?_ ?_ _) | (with_reducible refine Below.setCell ?_ ?_ _) | (with_reducible refine below_drewN ?_ _) | (with_reducible refine Below.drew ?_) | (with_reducible refine below_step (by assumption) ?_ ?_) | omega | (simp; done) | (simp; omega)))) (by omega)).mono ?_)
  rintro e w6 ⟨A6, n6, c6, rfl, o6, b6⟩
  have O6 := OwnR.wide (OwnR.of o6) (lo' := w5.heap.size) (by first | omega | (simp; done) | (simp; omega)) (Nat.le_refl _)
  clear o6
  have z6 := b6.size
  (try simp at z6)
  have y6_0 : w.heap.size < w6.heap.size := by omega
  have y6_1 : w.heap.size + 1 < w6.heap.size := by omega
  have k6_0_0 : w6.cell? ⟨w.heap.size, 0, none⟩ = some (.bool s0) := by rw [(bxcell b6).1 _ _ (by first | omega | (simp; done) | (simp; omega))]; simp [go_sem, *]
  have k6_0_1 : w6.cell? ⟨w.heap.size, 1, none⟩ = some (.slice A0 xs.length c0) := by rw [(bxcell b6).1 _ _ (by first | omega | (simp; done) | (simp; omega))]; simp [go_sem, *]
  have k6_1_0 : w6.cell? ⟨w.heap.size + 1, 0, none⟩ = some (.bool s1) := by rw [(bxcell b6).1 _ _ (by first | omega | (simp; done) | (simp; omega))]; simp [go_sem, *]
  have k6_1_1 : w6.cell? ⟨w.heap.size + 1, 1, none⟩ = some (.slice A1 ys.length c1) := by rw [(bxcell b6).1 _ _ (by first | omega | (simp; done) | (simp; omega))]; simp [go_sem, *]
  clear k5_0_0 k5_0_1 k5_1_0 k5_1_1 y5_0 y5_1
  go_wp2_with fail
  (with_reducible refine (laws_toBigInt s1 A1 _ c1 ys _ (S1.out.below (by repeat' (first | (with_reducible exact Below.refl _ _) | (with_reducible refine Below.alloc ?_ ?_ _) | (with_reducible refine Below.setCell ?_ ?_ _) | (with_reducible refine below_drewN ?_ _) | (with_reducible refine Below.drew ?_) | (with_reducible refine below_step (by assumption) ?_ ?_) | omega | (simp; done) | (simp; omega)))) (by omega)).mono ?_)
  rintro e w7 ⟨A7, n7, c7, rfl, o7, b7⟩
  have O7 := OwnR.wide (OwnR.of o7) (lo' := w6.heap.size + 1) (by first | omega | (simp; done) | (simp; omega)) (Nat.le_refl _)
  clear o7
  have z7 := b7.size
  (try simp at z7)
  have y7_0 : w.heap.size < w7.heap.size := by omega
  have y7_1 : w.heap.size + 1 < w7.heap.size := by omega
  have y7_2 : w6.heap.size < w7.heap.size := by omega
  have k7_0_0 : w7.cell? ⟨w.heap.size, 0, none⟩ = some (.bool s0) := by rw [(bxcell b7).1 _ _ (by first | omega | (simp; done) | (simp; omega))]; simp [go_sem, *]
  have k7_0_1 : w7.cell? ⟨w.heap.size, 1, none⟩ = some (.slice A0 xs.length c0) := by rw [(bxcell b7).1 _ _ (by first | omega | (simp; done) | (simp; omega))]; simp [go_sem, *]
  have k7_1_0 : w7.cell? ⟨w.heap.size + 1, 0, none⟩ = some (.bool s1) := by rw [(bxcell b7).1 _ _ (by first | omega | (simp; done) | (simp; omega))]; simp [go_sem, *]
  have k7_1_1 : w7.cell? ⟨w.heap.size + 1, 1, none⟩ = some (.slice A1 ys.length c1) := by rw [(bxcell b7).1 _ _ (by first | omega | (simp; done) | (simp; omega))]; simp [go_sem, *]
  have k7_2_0 : w7.cell? ⟨w6.heap.size, 0, none⟩ = some (.bool s0) := by rw [(bxcell b7).1 _ _ (by first | omega | (simp; done) | (simp; omega))]; simp [go_sem, *]
  have k7_2_1 : w7.cell? ⟨w6.heap.size, 1, none⟩ = some (.slice A6 n6 c6) := by rw [(bxcell b7).1 _ _ (by first | omega | (simp; done) | (simp; omega))]; simp [go_sem, *]
  clear k6_0_0 k6_0_1 k6_1_0 k6_1_1 y6_0 y6_1
  go_wp2_with fail
  (with_reducible refine (impl_BigIntCmp s0 s1 _ _ _ _ _ _ xs ys _ (OwnR.here O6 (by repeat' (first | (with_reducible exact Below.refl _ _) | (with_reducible refine Below.alloc ?_ ?_ _) | (with_reducible refine Below.setCell ?_ ?_ _) | (with_reducible refine below_drewN ?_ _) | (with_reducible refine Below.drew ?_) | (with_reducible refine below_step (by assumption) ?_ ?_) | omega | (simp; done) | (simp; omega)))).sl (OwnR.here O7 (by repeat' (first | (with_reducible exact Below.refl _ _) | (with_reducible refine Below.alloc ?_ ?_ _) | (with_reducible refine Below.setCell ?_ ?_ _) | (with_reducible refine below_drewN ?_ _) | (with_reducible refine Below.drew ?_) | (with_reducible refine below_step (by assumption) ?_ ?_) | omega | (simp; done) | (simp; omega)))).sl).mono ?_)
  rintro e w8 ⟨rfl, b8⟩
  rw [← X0.out]
  have z8 := b8.size
  (try simp at z8)
  have y8_0 : w.heap.size < w8.heap.size := by omega
  have y8_1 : w.heap.size + 1 < w8.heap.size := by omega
  have y8_2 : w6.heap.size < w8.heap.size := by omega
  have y8_3 : w7.heap.size < w8.heap.size := by omega
  have k8_0_0 : w8.cell? ⟨w.heap.size, 0, none⟩ = some (.bool s0) := by rw [(bxcell b8).1 _ _ (by first | omega | (simp; done) | (simp; omega))]; simp [go_sem, *]
  have k8_0_1 : w8.cell? ⟨w.heap.size, 1, none⟩ = some (.slice A0 xs.length c0) := by rw [(bxcell b8).1 _ _ (by first | omega | (simp; done) | (simp; omega))]; simp [go_sem, *]
  have k8_1_0 : w8.cell? ⟨w.heap.size + 1, 0, none⟩ = some (.bool s1) := by rw [(bxcell b8).1 _ _ (by first | omega | (simp; done) | (simp; omega))]; simp [go_sem, *]
  have k8_1_1 : w8.cell? ⟨w.heap.size + 1, 1, none⟩ = some (.slice A1 ys.length c1) := by rw [(bxcell b8).1 _ _ (by first | omega | (simp; done) | (simp; omega))]; simp [go_sem, *]
  have k8_2_0 : w8.cell? ⟨w6.heap.size, 0, none⟩ = some (.bool s0) := by rw [(bxcell b8).1 _ _ (by first | omega | (simp; done) | (simp; omega))]; simp [go_sem, *]
  have k8_2_1 : w8.cell? ⟨w6.heap.size, 1, none⟩ = some (.slice A6 n6 c6) := by rw [(bxcell b8).1 _ _ (by first | omega | (simp; done) | (simp; omega))]; simp [go_sem, *]
  have k8_3_0 : w8.cell? ⟨w7.heap.size, 0, none⟩ = some (.bool s1) := by rw [(bxcell b8).1 _ _ (by first | omega | (simp; done) | (simp; omega))]; simp [go_sem, *]
  have k8_3_1 : w8.cell? ⟨w7.heap.size, 1, none⟩ = some (.slice A7 n7 c7) := by rw [(bxcell b8).1 _ _ (by first | omega | (simp; done) | (simp; omega))]; simp [go_sem, *]
  clear k7_0_0 k7_0_1 k7_1_0 k7_1_1 k7_2_0 k7_2_1 y7_0 y7_1 y7_2
  go_wp2_with fail
  go_region_held3 (fun w' => w'.cell? ⟨w6.heap.size, 0, none⟩ = some (.bool s0) ∧ w'.cell? ⟨w6.heap.size, 1, none⟩ = some (.slice A6 n6 c6) ∧ w'.cell? ⟨w.heap.size, 0, none⟩ = some (.bool s0) ∧ w'.cell? ⟨w.heap.size, 1, none⟩ = some (.slice A0 xs.length c0)) (go_keep)
    (first
      | (go_at_call 36; (with_reducible refine (laws_toBigInt s0 A0 _ c0 xs _ (S0.out.below (by repeat' (first | (with_reducible exact Below.refl _ _) | (with_reducible refine Below.alloc ?_ ?_ _) | (with_reducible refine Below.setCell ?_ ?_ _) | (with_reducible refine below_drewN ?_ _) | (with_reducible refine Below.drew ?_) | (with_reducible refine below_step (by assumption) ?_ ?_) | omega | (simp; done) | (simp; omega)))) (by omega)).mono ?_); rintro e w9 ⟨A9, n9, c9, rfl, o9, b9⟩; obtain ⟨hc9, hf9⟩ := bxcell b9; have q9_0 := fun o => hc9 (w.heap.size) o (by first | omega | (simp; done) | (simp; omega)); have q9_1 := fun o => hc9 (w.heap.size + 1) o (by first | omega | (simp; done) | (simp; omega)); have q9_2 := fun o => hc9 (w6.heap.size) o (by first | omega | (simp; done) | (simp; omega)); have q9_3 := fun o => hc9 (w7.heap.size) o (by first | omega | (simp; done) | (simp; omega)); have z9 := b9.size; (try simp at z9); have O9 := OwnR.wide (OwnR.of o9) (lo' := w8.heap.size) (by first | omega | (simp; done) | (simp; omega)) (Nat.le_refl _); clear o9)
      | (go_at_call 38; (with_reducible refine (eqBig s0 _ _ _ _ _ _ xs _ (OwnR.here O6 (by repeat' (first | (with_reducible exact Below.refl _ _) | (with_reducible refine Below.alloc ?_ ?_ _) | (with_reducible refine Below.setCell ?_ ?_ _) | (with_reducible refine below_drewN ?_ _) | (with_reducible refine Below.drew ?_) | (with_reducible refine below_step (by assumption) ?_ ?_) | omega | (simp; done) | (simp; omega)))).sl (OwnR.here O9 (by repeat' (first | (with_reducible exact Below.refl _ _) | (with_reducible refine Below.alloc ?_ ?_ _) | (with_reducible refine Below.setCell ?_ ?_ _) | (with_reducible refine below_drewN ?_ _) | (with_reducible refine Below.drew ?_) | (with_reducible refine below_step (by assumption) ?_ ?_) | omega | (simp; done) | (simp; omega)))).sl).mono ?_); rintro e w10 ⟨rfl, b10⟩; obtain ⟨hc10, hf10⟩ := bxcell b10; have q10_0 := fun o => hc10 (w.heap.size) o (by first | omega | (simp; done) | (simp; omega)); have q10_1 := fun o => hc10 (w.heap.size + 1) o (by first | omega | (simp; done) | (simp; omega)); have q10_2 := fun o => hc10 (w6.heap.size) o (by first | omega | (simp; done) | (simp; omega)); have q10_3 := fun o => hc10 (w7.heap.size) o (by first | omega | (simp; done) | (simp; omega)); have z10 := b10.size; (try simp at z10)))
  have z10 := b10.size
  (try simp at z10)
  have y10_0 : w.heap.size < w10.heap.size := by omega
  have y10_1 : w.heap.size + 1 < w10.heap.size := by omega
  have y10_2 : w6.heap.size < w10.heap.size := by omega
  have y10_3 : w7.heap.size < w10.heap.size := by omega
  have k10_0_0 : w10.cell? ⟨w.heap.size, 0, none⟩ = some (.bool s0) := by rw [(bxcell b10).1 _ _ (by first | omega | (simp; done) | (simp; omega))]; simp [go_sem, *]
  have k10_0_1 : w10.cell? ⟨w.heap.size, 1, none⟩ = some (.slice A0 xs.length c0) := by rw [(bxcell b10).1 _ _ (by first | omega | (simp; done) | (simp; omega))]; simp [go_sem, *]
  have k10_1_0 : w10.cell? ⟨w.heap.size + 1, 0, none⟩ = some (.bool s1) := by rw [(bxcell b10).1 _ _ (by first | omega | (simp; done) | (simp; omega))]; simp [go_sem, *]
  have k10_1_1 : w10.cell? ⟨w.heap.size + 1, 1, none⟩ = some (.slice A1 ys.length c1) := by rw [(bxcell b10).1 _ _ (by first | omega | (simp; done) | (simp; omega))]; simp [go_sem, *]
  have k10_2_0 : w10.cell? ⟨w6.heap.size, 0, none⟩ = some (.bool s0) := by rw [(bxcell b10).1 _ _ (by first | omega | (simp; done) | (simp; omega))]; simp [go_sem, *]
  have k10_2_1 : w10.cell? ⟨w6.heap.size, 1, none⟩ = some (.slice A6 n6 c6) := by rw [(bxcell b10).1 _ _ (by first | omega | (simp; done) | (simp; omega))]; simp [go_sem, *]
  have k10_3_0 : w10.cell? ⟨w7.heap.size, 0, none⟩ = some (.bool s1) := by rw [(bxcell b10).1 _ _ (by first | omega | (simp; done) | (simp; omega))]; simp [go_sem, *]
  have k10_3_1 : w10.cell? ⟨w7.heap.size, 1, none⟩ = some (.slice A7 n7 c7) := by rw [(bxcell b10).1 _ _ (by first | omega | (simp; done) | (simp; omega))]; simp [go_sem, *]
  clear k8_0_0 k8_0_1 k8_1_0 k8_1_1 k8_2_0 k8_2_1 k8_3_0 k8_3_1 y8_0 y8_1 y8_2 y8_3 hc9 hf9 q9_0 q9_1 q9_2 q9_3 hc10 hf10 q10_0 q10_1 q10_2 q10_3
  go_wp2_with fail
  go_region_held3 (fun w' => w'.cell? ⟨w7.heap.size, 0, none⟩ = some (.bool s1) ∧ w'.cell? ⟨w7.heap.size, 1, none⟩ = some (.slice A7 n7 c7) ∧ w'.cell? ⟨w.heap.size + 1, 0, none⟩ = some (.bool s1) ∧ w'.cell? ⟨w.heap.size + 1, 1, none⟩ = some (.slice A1 ys.length c1)) (go_keep)
    (first
      | (go_at_call 36; (with_reducible refine (laws_toBigInt s1 A1 _ c1 ys _ (S1.out.below (by repeat' (first | (with_reducible exact Below.refl _ _) | (with_reducible refine Below.alloc ?_ ?_ _) | (with_reducible refine Below.setCell ?_ ?_ _) | (with_reducible refine below_drewN ?_ _) | (with_reducible refine Below.drew ?_) | (with_reducible refine below_step (by assumption) ?_ ?_) | omega | (simp; done) | (simp; omega)))) (by omega)).mono ?_); rintro e w11 ⟨A11, n11, c11, rfl, o11, b11⟩; obtain ⟨hc11, hf11⟩ := bxcell b11; have q11_0 := fun o => hc11 (w.heap.size) o (by first | omega | (simp; done) | (simp; omega)); have q11_1 := fun o => hc11 (w.heap.size + 1) o (by first | omega | (simp; done) | (simp; omega)); have q11_2 := fun o => hc11 (w6.heap.size) o (by first | omega | (simp; done) | (simp; omega)); have q11_3 := fun o => hc11 (w7.heap.size) o (by first | omega | (simp; done) | (simp; omega)); have z11 := b11.size; (try simp at z11); have O11 := OwnR.wide (OwnR.of o11) (lo' := w10.heap.size) (by first | omega | (simp; done) | (simp; omega)) (Nat.le_refl _); clear o11)
      | (go_at_call 38; (with_reducible refine (eqBig s1 _ _ _ _ _ _ ys _ (OwnR.here O7 (by repeat' (first | (with_reducible exact Below.refl _ _) | (with_reducible refine Below.alloc ?_ ?_ _) | (with_reducible refine Below.setCell ?_ ?_ _) | (with_reducible refine below_drewN ?_ _) | (with_reducible refine Below.drew ?_) | (with_reducible refine below_step (by assumption) ?_ ?_) | omega | (simp; done) | (simp; omega)))).sl (OwnR.here O11 (by repeat' (first | (with_reducible exact Below.refl _ _) | (with_reducible refine Below.alloc ?_ ?_ _) | (with_reducible refine Below.setCell ?_ ?_ _) | (with_reducible refine below_drewN ?_ _) | (with_reducible refine Below.drew ?_) | (with_reducible refine below_step (by assumption) ?_ ?_) | omega | (simp; done) | (simp; omega)))).sl).mono ?_); rintro e w12 ⟨rfl, b12⟩; obtain ⟨hc12, hf12⟩ := bxcell b12; have q12_0 := fun o => hc12 (w.heap.size) o (by first | omega | (simp; done) | (simp; omega)); have q12_1 := fun o => hc12 (w.heap.size + 1) o (by first | omega | (simp; done) | (simp; omega)); have q12_2 := fun o => hc12 (w6.heap.size) o (by first | omega | (simp; done) | (simp; omega)); have q12_3 := fun o => hc12 (w7.heap.size) o (by first | omega | (simp; done) | (simp; omega)); have z12 := b12.size; (try simp at z12)))
  have z12 := b12.size
  (try simp at z12)
  have y12_0 : w.heap.size < w12.heap.size := by omega
  have y12_1 : w.heap.size + 1 < w12.heap.size := by omega
  have y12_2 : w6.heap.size < w12.heap.size := by omega
  have y12_3 : w7.heap.size < w12.heap.size := by omega
  have k12_0_0 : w12.cell? ⟨w.heap.size, 0, none⟩ = some (.bool s0) := by rw [(bxcell b12).1 _ _ (by first | omega | (simp; done) | (simp; omega))]; simp [go_sem, *]
  have k12_0_1 : w12.cell? ⟨w.heap.size, 1, none⟩ = some (.slice A0 xs.length c0) := by rw [(bxcell b12).1 _ _ (by first | omega | (simp; done) | (simp; omega))]; simp [go_sem, *]
  have k12_1_0 : w12.cell? ⟨w.heap.size + 1, 0, none⟩ = some (.bool s1) := by rw [(bxcell b12).1 _ _ (by first | omega | (simp; done) | (simp; omega))]; simp [go_sem, *]
  have k12_1_1 : w12.cell? ⟨w.heap.size + 1, 1, none⟩ = some (.slice A1 ys.length c1) := by rw [(bxcell b12).1 _ _ (by first | omega | (simp; done) | (simp; omega))]; simp [go_sem, *]
  have k12_2_0 : w12.cell? ⟨w6.heap.size, 0, none⟩ = some (.bool s0) := by rw [(bxcell b12).1 _ _ (by first | omega | (simp; done) | (simp; omega))]; simp [go_sem, *]
  have k12_2_1 : w12.cell? ⟨w6.heap.size, 1, none⟩ = some (.slice A6 n6 c6) := by rw [(bxcell b12).1 _ _ (by first | omega | (simp; done) | (simp; omega))]; simp [go_sem, *]
  have k12_3_0 : w12.cell? ⟨w7.heap.size, 0, none⟩ = some (.bool s1) := by rw [(bxcell b12).1 _ _ (by first | omega | (simp; done) | (simp; omega))]; simp [go_sem, *]
  have k12_3_1 : w12.cell? ⟨w7.heap.size, 1, none⟩ = some (.slice A7 n7 c7) := by rw [(bxcell b12).1 _ _ (by first | omega | (simp; done) | (simp; omega))]; simp [go_sem, *]
  clear k10_0_0 k10_0_1 k10_1_0 k10_1_1 k10_2_0 k10_2_1 k10_3_0 k10_3_1 y10_0 y10_1 y10_2 y10_3 hc11 hf11 q11_0 q11_1 q11_2 q11_3 hc12 hf12 q12_0 q12_1 q12_2 q12_3
  go_wp2
  go_ret
  exact ⟨rfl, (by repeat' (first | (with_reducible exact Below.refl _ _) | (with_reducible refine Below.alloc ?_ ?_ _) | (with_reducible refine Below.setCell ?_ ?_ _) | (with_reducible refine below_drewN ?_ _) | (with_reducible refine Below.drew ?_) | (with_reducible refine below_step (by assumption) ?_ ?_) | omega | (simp; done) | (simp; omega)))⟩
theorem fnExactBigIntCmp.own : ownKnob Try.prog.godebug = none := by kernel_rfl
theorem fnExactBigIntCmp.laidOut : laidOutB Try.prog = true := by kernel_rfl
set_option linter.unusedVariables false in
set_option maxRecDepth 100000 in
theorem fnExactBigIntCmp.lifted (os : Os) (started : os.Started) (H : Type) (enc : TypeId × Value → H) :
    ReturnsInHanded {} Try.checked os 10 .any (Rows.fnExactBigIntCmpSpec.pre6 enc Try.prog Try.f10 Rows.fnExactBigIntCmpRow.domain false) (Rows.fnExactBigIntCmpSpec.post enc Try.prog Try.f10 false true false false) := by
  refine returnsInHanded_of_change (C := Try.checked) fnExactBigIntCmp.own started (by kernel_rfl) Try.func10
    (ChangeSpec.witness6 (enc := enc) (C := Try.checked) false ⟨#[], #[.agg #[.bool false, .slice none 0 0], .agg #[.bool false, .slice none 0 0]], []⟩ 8 (by kernel_rfl) (by kernel_rfl) (by kernel_rfl) (by kernel_rfl)) ?_
  intro W base args ds gs before hval0 hW hcnd _
  have hval : ∀ (j : Nat) t v, Try.f10.params[j]? = some t → args[j]? = some v → Value.okWide Try.prog W .any base t v := hval0
  have hW' := hW
  obtain ⟨p, q, hA0, hV, rfl, hfz, hnd⟩ := hW
  have hA : DataW.TrodAll enc Try.prog W 0 (fun _ => true) true Try.f10.params.toList args.toList ds p := hA0
  rw [Try.params10] at hA hval
  obtain ⟨v0, vs0, d0, ds0, p0, q0, hargs, rfl, rfl, h0, r0⟩ := trodAll_cons hA
  obtain ⟨v1, vs1, d1, ds1, p1, q1, rfl, rfl, rfl, h1, r1⟩ := trodAll_cons r0
  obtain ⟨rfl, rfl, rfl⟩ := trodAll_nil r1
  obtain rfl : args = #[v0, v1] := by cases args; simp_all
  obtain ⟨rfl, rfl⟩ := trodVars_none hV
  have k0 := h0
  have lt0 : ∀ x ∈ p0, x.block < W.heap.size := by obtain ⟨m, hm⟩ := k0; exact DataW.trod_lt m _ _ _ hm
  have k1 := h1
  have lt1 : ∀ x ∈ p1, x.block < W.heap.size := by obtain ⟨m, hm⟩ := k1; exact DataW.trod_lt m _ _ _ hm
  obtain ⟨n0, u0, x0, rfl, s0, f0⟩ := open_bigL Try.underlying37 (by kernel_rfl) (by kernel_rfl) rfl rfl Try.underlying4 Try.underlying22 Try.underlying3 (by kernel_rfl) (hval 0 37 v0 rfl rfl) h0
  obtain ⟨n1, u1, x1, rfl, s1, f1⟩ := open_bigL Try.underlying37 (by kernel_rfl) (by kernel_rfl) rfl rfl Try.underlying4 Try.underlying22 Try.underlying3 (by kernel_rfl) (hval 1 37 v1 rfl rfl) h1
  clear hA0 hval0
  refine (walk_FnExactBigIntCmp W n0 u0 x0 s0 f0 n1 u1 x1 s1 f1).mono fun e W' ⟨he, bel⟩ => ?_
  subst he
  exact ⟨_, rfl, _, _, _, [], _, [], hW', trodAll_mk1 (shut_bool Try.underlying4 _), (trodAll_cons_mk (Below.trod fnExactBigIntCmp.laidOut (by kernel_rfl) (of_decide_eq_true (by kernel_rfl)) k0 bel lt0) (trodAll_cons_mk (Below.trod fnExactBigIntCmp.laidOut (by kernel_rfl) (of_decide_eq_true (by kernel_rfl)) k1 bel lt1) trodAll_mk0)), rfl, bel.frame _, fun h => by cases h⟩
theorem fnExactBigIntCmp.over : Rows.fnExactBigIntCmpRow.holds Try.pinned (OpenSpec.ofChange Rows.fnExactBigIntCmpSpec) :=
  OpenClaim.holds_of_wide 10 Try.f10 rfl rfl rfl rfl rfl rfl rfl ⟨rfl, rfl, rfl, rfl, rfl⟩ rfl rfl rfl rfl rfl (by kernel_rfl) Try.func10 (by kernel_rfl)
    (of_decide_eq_true (by kernel_rfl)) (by unfold Func.isWrapper; first | (rw [if_pos (by decide +kernel)]; kernel_rfl) | (rw [if_neg (by decide +kernel)]; exact ⟨rfl, rfl⟩))
    (fun os started H enc _ => fnExactBigIntCmp.lifted os started H enc)
/-- THE STATEMENT. -/
theorem fnExactBigIntCmp_holds : Rows.FnExactBigIntCmpSaid := fnExactBigIntCmp.over
#print axioms fnExactBigIntCmp_holds
end Go.Proofs.Ythpfmeipppncmaa
