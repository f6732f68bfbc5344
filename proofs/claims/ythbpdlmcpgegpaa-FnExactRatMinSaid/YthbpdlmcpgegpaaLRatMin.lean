/-
  FnExactRatMin, proved: for all two fractions the law returns true. No further condition. Written by an AI agent.
-/
import Derived.Test.YthbpdlmcpgegpaaRatY
import Derived.Test.YthbpdlmcpgegpaaOpen
import Derived.Test.YthbpdlmcpgegpaaBox
import Derived.Deep.RegionHeld3
import Derived.Deep.DeepCutAuto
namespace Go.Proofs.Ythbpdlmcpgegpaa
open Go.ChangeShapes Go.WideShapes Go.ChangeAt Go.RowKit

set_option maxRecDepth 100000 in
set_option maxHeartbeats 8000000 in
theorem walk_FnExactRatMin (w : World) (s0 : Bool) (v0 : Value) (xs : List Int) (u0 : Value) (ys : List Int) (h0 : Sl w v0 xs) (_f0 : Wf xs) (i0 : Sl w u0 ys) (_g0 : Wf ys) (s1 : Bool) (v1 : Value) (us : List Int) (u1 : Value) (vs : List Int) (h1 : Sl w v1 us) (_f1 : Wf us) (i1 : Sl w u1 vs) (_g1 : Wf vs) :
    Calls Try.prog 8 #[.agg #[.bool s0, v0, u0], .agg #[.bool s1, v1, u1]] w fun e w' => e = .returned (.bool true) ∧ Below w.heap.size w w' := by
  have S0 := Lib.hid h0
  clear _f0
  obtain ⟨A0, c0, rfl, p1, p2, p3⟩ := h0
  have hm0 : xs.length ≤ 9223372036854775807 := by unfold maxLen at p2; omega
  clear p1 p2 p3
  have R0 := Lib.hid i0
  clear _g0
  obtain ⟨B0, d0, rfl, p1, p2, p3⟩ := i0
  have hn0 : ys.length ≤ 9223372036854775807 := by unfold maxLen at p2; omega
  clear p1 p2 p3
  have S1 := Lib.hid h1
  clear _f1
  obtain ⟨A1, c1, rfl, p1, p2, p3⟩ := h1
  have hm1 : us.length ≤ 9223372036854775807 := by unfold maxLen at p2; omega
  clear p1 p2 p3
  have R1 := Lib.hid i1
  clear _g1
  obtain ⟨B1, d1, rfl, p1, p2, p3⟩ := i1
  have hn1 : vs.length ≤ 9223372036854775807 := by unfold maxLen at p2; omega
  clear p1 p2 p3
  obtain ⟨rs0, hr⟩ : ∃ x, x = decide ((ratMinF s0 s1 xs ys us vs).1 < 0) := ⟨_, rfl⟩
  have X0 := Lib.hid hr
  clear hr
  obtain ⟨rs1, hr⟩ : ∃ x, x = toL (ratMinF s0 s1 xs ys us vs).1.natAbs := ⟨_, rfl⟩
  have hl1 : rs1.length ≤ 2000000 := by rw [hr]; exact (ratMinF_len s0 s1 xs ys us vs).1
  have X1 := Lib.hid hr
  clear hr
  obtain ⟨rs2, hr⟩ : ∃ x, x = toL (ratMinF s0 s1 xs ys us vs).2 := ⟨_, rfl⟩
  have hl2 : rs2.length ≤ 2000000 := by rw [hr]; exact (ratMinF_len s0 s1 xs ys us vs).2
  have X2 := Lib.hid hr
  clear hr
  go_enter Try.func8, Try.ntmps8
  go_wp2_with fail
  (with_reducible refine (laws_szRatR s0 A0 xs.length c0 B0 ys.length d0 (1048576) _ hm0 hn0 (by omega) (by omega)).mono ?_)
  rintro e w1 ⟨t1, rfl, ht1, b1⟩
  rcases ht1 with rfl | ⟨ha1, hb1⟩
  · go_wp2
    go_ret
    exact ⟨rfl, (by repeat' (first | (with_reducible exact Below.refl _ _) | (with_reducible refine Below.alloc ?_ ?_ _) | (with_reducible refine Below.setCell ?_ ?_ _) | (with_reducible refine below_drewN ?_ _) | (with_reducible refine Below.drew ?_) | (with_reducible refine below_step (by assumption) ?_ ?_) | omega | (simp; done) | (simp; omega)))⟩
  have z1 := b1.size
  (try simp at z1)
  have y1_0 : w.heap.size < w1.heap.size := by omega
  have y1_1 : w.heap.size + 1 < w1.heap.size := by omega
  have k1_0_0 : w1.cell? ⟨w.heap.size, 0, none⟩ = some (.bool s0) := by rw [(bxcell b1).1 _ _ (by first | omega | (simp; done) | (simp; omega))]; simp [go_sem, *]
  have k1_0_1 : w1.cell? ⟨w.heap.size, 1, none⟩ = some (.slice A0 xs.length c0) := by rw [(bxcell b1).1 _ _ (by first | omega | (simp; done) | (simp; omega))]; simp [go_sem, *]
  have k1_0_2 : w1.cell? ⟨w.heap.size, 2, none⟩ = some (.slice B0 ys.length d0) := by rw [(bxcell b1).1 _ _ (by first | omega | (simp; done) | (simp; omega))]; simp [go_sem, *]
  have k1_1_0 : w1.cell? ⟨w.heap.size + 1, 0, none⟩ = some (.bool s1) := by rw [(bxcell b1).1 _ _ (by first | omega | (simp; done) | (simp; omega))]; simp [go_sem, *]
  have k1_1_1 : w1.cell? ⟨w.heap.size + 1, 1, none⟩ = some (.slice A1 us.length c1) := by rw [(bxcell b1).1 _ _ (by first | omega | (simp; done) | (simp; omega))]; simp [go_sem, *]
  have k1_1_2 : w1.cell? ⟨w.heap.size + 1, 2, none⟩ = some (.slice B1 vs.length d1) := by rw [(bxcell b1).1 _ _ (by first | omega | (simp; done) | (simp; omega))]; simp [go_sem, *]
  go_wp2_with fail
  (with_reducible refine (laws_szRatR s1 A1 us.length c1 B1 vs.length d1 (t1) _ hm1 hn1 (by omega) (by omega)).mono ?_)
  rintro e w2 ⟨t2, rfl, ht2, b2⟩
  rcases ht2 with rfl | ⟨ha2, hb2⟩
  · go_wp2
    go_ret
    exact ⟨rfl, (by repeat' (first | (with_reducible exact Below.refl _ _) | (with_reducible refine Below.alloc ?_ ?_ _) | (with_reducible refine Below.setCell ?_ ?_ _) | (with_reducible refine below_drewN ?_ _) | (with_reducible refine Below.drew ?_) | (with_reducible refine below_step (by assumption) ?_ ?_) | omega | (simp; done) | (simp; omega)))⟩
  have z2 := b2.size
  (try simp at z2)
  have y2_0 : w.heap.size < w2.heap.size := by omega
  have y2_1 : w.heap.size + 1 < w2.heap.size := by omega
  have k2_0_0 : w2.cell? ⟨w.heap.size, 0, none⟩ = some (.bool s0) := by rw [(bxcell b2).1 _ _ (by first | omega | (simp; done) | (simp; omega))]; simp [go_sem, *]
  have k2_0_1 : w2.cell? ⟨w.heap.size, 1, none⟩ = some (.slice A0 xs.length c0) := by rw [(bxcell b2).1 _ _ (by first | omega | (simp; done) | (simp; omega))]; simp [go_sem, *]
  have k2_0_2 : w2.cell? ⟨w.heap.size, 2, none⟩ = some (.slice B0 ys.length d0) := by rw [(bxcell b2).1 _ _ (by first | omega | (simp; done) | (simp; omega))]; simp [go_sem, *]
  have k2_1_0 : w2.cell? ⟨w.heap.size + 1, 0, none⟩ = some (.bool s1) := by rw [(bxcell b2).1 _ _ (by first | omega | (simp; done) | (simp; omega))]; simp [go_sem, *]
  have k2_1_1 : w2.cell? ⟨w.heap.size + 1, 1, none⟩ = some (.slice A1 us.length c1) := by rw [(bxcell b2).1 _ _ (by first | omega | (simp; done) | (simp; omega))]; simp [go_sem, *]
  have k2_1_2 : w2.cell? ⟨w.heap.size + 1, 2, none⟩ = some (.slice B1 vs.length d1) := by rw [(bxcell b2).1 _ _ (by first | omega | (simp; done) | (simp; omega))]; simp [go_sem, *]
  clear k1_0_0 k1_0_1 k1_0_2 k1_1_0 k1_1_1 k1_1_2 y1_0 y1_1
  go_upto_region 8 with fail
  go_cut [6] (fun s wx => BoxQ w2 3 rs0 rs1 rs2 s wx)
  case first =>
    have yb2_0 := Nat.ne_of_lt y2_0
    have yc2_0 := (Nat.ne_of_lt y2_0).symm
    have yb2_1 := Nat.ne_of_lt y2_1
    have yc2_1 := (Nat.ne_of_lt y2_1).symm
    go_region_held3 (fun w' => w'.cell? ⟨w.heap.size, 0, none⟩ = some (.bool s0) ∧ w'.cell? ⟨w.heap.size, 1, none⟩ = some (.slice A0 xs.length c0) ∧ w'.cell? ⟨w.heap.size, 2, none⟩ = some (.slice B0 ys.length d0) ∧ w'.cell? ⟨w.heap.size + 1, 0, none⟩ = some (.bool s1) ∧ w'.cell? ⟨w.heap.size + 1, 1, none⟩ = some (.slice A1 us.length c1) ∧ w'.cell? ⟨w.heap.size + 1, 2, none⟩ = some (.slice B1 vs.length d1)) (go_keep)
      (first
        | (go_at_call 31; (with_reducible refine (laws_toRat s0 A0 B0 _ c0 _ d0 xs ys _ (S0.out.below (by repeat' (first | (with_reducible exact Below.refl _ _) | (with_reducible refine Below.alloc ?_ ?_ _) | (with_reducible refine Below.setCell ?_ ?_ _) | (with_reducible refine below_drewN ?_ _) | (with_reducible refine Below.drew ?_) | (with_reducible refine below_step (by assumption) ?_ ?_) | omega | (simp; done) | (simp; omega)))) (R0.out.below (by repeat' (first | (with_reducible exact Below.refl _ _) | (with_reducible refine Below.alloc ?_ ?_ _) | (with_reducible refine Below.setCell ?_ ?_ _) | (with_reducible refine below_drewN ?_ _) | (with_reducible refine Below.drew ?_) | (with_reducible refine below_step (by assumption) ?_ ?_) | omega | (simp; done) | (simp; omega)))) (by omega) (by omega)).mono ?_); rintro e w3 ⟨A3, n3, c3, B3, m3, d3, rfl, o3, b3⟩; obtain ⟨hc3, hf3⟩ := bxcell b3; have q3_0 := fun o => hc3 (w.heap.size) o (by first | omega | (simp; done) | (simp; omega)); have q3_1 := fun o => hc3 (w.heap.size + 1) o (by first | omega | (simp; done) | (simp; omega)); have z3 := b3.size; (try simp at z3); have ya3_0 : w.heap.size < w3.heap.size := (by omega); have yb3_0 := Nat.ne_of_lt ya3_0; have yc3_0 := (Nat.ne_of_lt ya3_0).symm; have ya3_1 : w.heap.size + 1 < w3.heap.size := (by omega); have yb3_1 := Nat.ne_of_lt ya3_1; have yc3_1 := (Nat.ne_of_lt ya3_1).symm; (try have v3_w2 : w2.heap.size < w3.heap.size := (by omega)); (try have u3_w2 := fun o => hc3 (w2.heap.size) o (by first | omega | (simp; done) | (simp; omega))); (try have x3_w2 := fun o => hf3 (w2.heap.size) o (by first | omega | (simp; done) | (simp; omega))); have O3 := PairR.wide o3 (lo' := w2.heap.size) (by first | omega | (simp; done) | (simp; omega)) (Nat.le_refl _); clear o3)
        | (go_at_call 31; (with_reducible refine (laws_toRat s1 A1 B1 _ c1 _ d1 us vs _ (S1.out.below (by repeat' (first | (with_reducible exact Below.refl _ _) | (with_reducible refine Below.alloc ?_ ?_ _) | (with_reducible refine Below.setCell ?_ ?_ _) | (with_reducible refine below_drewN ?_ _) | (with_reducible refine Below.drew ?_) | (with_reducible refine below_step (by assumption) ?_ ?_) | omega | (simp; done) | (simp; omega)))) (R1.out.below (by repeat' (first | (with_reducible exact Below.refl _ _) | (with_reducible refine Below.alloc ?_ ?_ _) | (with_reducible refine Below.setCell ?_ ?_ _) | (with_reducible refine below_drewN ?_ _) | (with_reducible refine Below.drew ?_) | (with_reducible refine below_step (by assumption) ?_ ?_) | omega | (simp; done) | (simp; omega)))) (by omega) (by omega)).mono ?_); rintro e w4 ⟨A4, n4, c4, B4, m4, d4, rfl, o4, b4⟩; obtain ⟨hc4, hf4⟩ := bxcell b4; have q4_0 := fun o => hc4 (w.heap.size) o (by first | omega | (simp; done) | (simp; omega)); have q4_1 := fun o => hc4 (w.heap.size + 1) o (by first | omega | (simp; done) | (simp; omega)); have z4 := b4.size; (try simp at z4); have ya4_0 : w.heap.size < w4.heap.size := (by omega); have yb4_0 := Nat.ne_of_lt ya4_0; have yc4_0 := (Nat.ne_of_lt ya4_0).symm; have ya4_1 : w.heap.size + 1 < w4.heap.size := (by omega); have yb4_1 := Nat.ne_of_lt ya4_1; have yc4_1 := (Nat.ne_of_lt ya4_1).symm; (try have v4_w2 : w2.heap.size < w4.heap.size := (by omega)); (try have u4_w2 := fun o => hc4 (w2.heap.size) o (by first | omega | (simp; done) | (simp; omega))); (try have x4_w2 := fun o => hf4 (w2.heap.size) o (by first | omega | (simp; done) | (simp; omega))); (try have v4_w3 : w3.heap.size < w4.heap.size := (by omega)); (try have u4_w3 := fun o => hc4 (w3.heap.size) o (by first | omega | (simp; done) | (simp; omega))); (try have x4_w3 := fun o => hf4 (w3.heap.size) o (by first | omega | (simp; done) | (simp; omega))); have O4 := PairR.wide o4 (lo' := w3.heap.size) (by first | omega | (simp; done) | (simp; omega)) (Nat.le_refl _); clear o4)
        | (go_at_call 40; (with_reducible refine (spec_RatMin s0 s1 _ _ _ _ _ _ _ _ _ _ _ _ xs ys us vs _ (PairR.here O3 (by repeat' (first | (with_reducible exact Below.refl _ _) | (with_reducible refine Below.alloc ?_ ?_ _) | (with_reducible refine Below.setCell ?_ ?_ _) | (with_reducible refine below_drewN ?_ _) | (with_reducible refine Below.drew ?_) | (with_reducible refine below_step (by assumption) ?_ ?_) | omega | (simp; done) | (simp; omega)))).sl1 (PairR.here O3 (by repeat' (first | (with_reducible exact Below.refl _ _) | (with_reducible refine Below.alloc ?_ ?_ _) | (with_reducible refine Below.setCell ?_ ?_ _) | (with_reducible refine below_drewN ?_ _) | (with_reducible refine Below.drew ?_) | (with_reducible refine below_step (by assumption) ?_ ?_) | omega | (simp; done) | (simp; omega)))).sl2 (PairR.here O4 (by repeat' (first | (with_reducible exact Below.refl _ _) | (with_reducible refine Below.alloc ?_ ?_ _) | (with_reducible refine Below.setCell ?_ ?_ _) | (with_reducible refine below_drewN ?_ _) | (with_reducible refine Below.drew ?_) | (with_reducible refine below_step (by assumption) ?_ ?_) | omega | (simp; done) | (simp; omega)))).sl1 (PairR.here O4 (by repeat' (first | (with_reducible exact Below.refl _ _) | (with_reducible refine Below.alloc ?_ ?_ _) | (with_reducible refine Below.setCell ?_ ?_ _) | (with_reducible refine below_drewN ?_ _) | (with_reducible refine Below.drew ?_) | (with_reducible refine below_step (by assumption) ?_ ?_) | omega | (simp; done) | (simp; omega)))).sl2).mono ?_); rintro e w5 ⟨A5, n5, c5, B5, m5, d5, rfl, o5, b5⟩; obtain ⟨hc5, hf5⟩ := bxcell b5; have q5_0 := fun o => hc5 (w.heap.size) o (by first | omega | (simp; done) | (simp; omega)); have q5_1 := fun o => hc5 (w.heap.size + 1) o (by first | omega | (simp; done) | (simp; omega)); have z5 := b5.size; (try simp at z5); have ya5_0 : w.heap.size < w5.heap.size := (by omega); have yb5_0 := Nat.ne_of_lt ya5_0; have yc5_0 := (Nat.ne_of_lt ya5_0).symm; have ya5_1 : w.heap.size + 1 < w5.heap.size := (by omega); have yb5_1 := Nat.ne_of_lt ya5_1; have yc5_1 := (Nat.ne_of_lt ya5_1).symm; (try have v5_w2 : w2.heap.size < w5.heap.size := (by omega)); (try have u5_w2 := fun o => hc5 (w2.heap.size) o (by first | omega | (simp; done) | (simp; omega))); (try have x5_w2 := fun o => hf5 (w2.heap.size) o (by first | omega | (simp; done) | (simp; omega))); (try have v5_w3 : w3.heap.size < w5.heap.size := (by omega)); (try have u5_w3 := fun o => hc5 (w3.heap.size) o (by first | omega | (simp; done) | (simp; omega))); (try have x5_w3 := fun o => hf5 (w3.heap.size) o (by first | omega | (simp; done) | (simp; omega))); (try have v5_w4 : w4.heap.size < w5.heap.size := (by omega)); (try have u5_w4 := fun o => hc5 (w4.heap.size) o (by first | omega | (simp; done) | (simp; omega))); (try have x5_w4 := fun o => hf5 (w4.heap.size) o (by first | omega | (simp; done) | (simp; omega))); rw [← X0.out]; rw [← X1.out, ← X2.out] at o5; have O5 := o5; clear o5))
    all_goals (go_wp2_with fail; go_meet; first | exact BoxQ.new O5 (by first | omega | (simp; done) | (simp; omega)) (by first | omega | (simp; done) | (simp; omega)) (by first | omega | (simp; done) | (simp; omega)) (by repeat' (first | (with_reducible exact Below.refl _ _) | (with_reducible refine Below.alloc ?_ ?_ _) | (with_reducible refine Below.setCell ?_ ?_ _) | (with_reducible refine below_drewN ?_ _) | (with_reducible refine Below.drew ?_) | (with_reducible refine below_step (by assumption) ?_ ?_) | omega | (simp; done) | (simp; omega))) | exact BoxQ.set O5 (by first | (left; first | omega | (simp; done) | (simp; omega)) | (right; first | omega | (simp; done) | (simp; omega))) (by first | omega | (simp; done) | (simp; omega)) (by first | omega | (simp; done) | (simp; omega)) (by simp [go_sem, *]) (by simp [go_sem, *]) (by simp [go_sem, *]) (by first | omega | (simp; done) | (simp; omega)) (by first | omega | (simp; done) | (simp; omega)) (by first | omega | (simp; done) | (simp; omega)) (by repeat' (first | (with_reducible exact Below.refl _ _) | (with_reducible refine Below.alloc ?_ ?_ _) | (with_reducible refine Below.setCell ?_ ?_ _) | (with_reducible refine below_drewN ?_ _) | (with_reducible refine Below.drew ?_) | (with_reducible refine below_step (by assumption) ?_ ?_) | omega | (simp; done) | (simp; omega))))
  case rest =>
    rename World => w6
    obtain ⟨g6, A6, n6, c6, B6, m6, d6, lo6, hi6, rfl, ga6, gb6, gc6, gd6, ge6, gf6, O6, gh6, gi6, gj6, b6⟩ := hcut
    have z6 := b6.size
    (try simp at z6)
    have y6_0 : w.heap.size < w6.heap.size := by omega
    have y6_1 : w.heap.size + 1 < w6.heap.size := by omega
    have k6_0_0 : w6.cell? ⟨w.heap.size, 0, none⟩ = some (.bool s0) := by rw [(bxcell b6).1 _ _ (by first | omega | (simp; done) | (simp; omega))]; simp [go_sem, *]
    have k6_0_1 : w6.cell? ⟨w.heap.size, 1, none⟩ = some (.slice A0 xs.length c0) := by rw [(bxcell b6).1 _ _ (by first | omega | (simp; done) | (simp; omega))]; simp [go_sem, *]
    have k6_0_2 : w6.cell? ⟨w.heap.size, 2, none⟩ = some (.slice B0 ys.length d0) := by rw [(bxcell b6).1 _ _ (by first | omega | (simp; done) | (simp; omega))]; simp [go_sem, *]
    have k6_1_0 : w6.cell? ⟨w.heap.size + 1, 0, none⟩ = some (.bool s1) := by rw [(bxcell b6).1 _ _ (by first | omega | (simp; done) | (simp; omega))]; simp [go_sem, *]
    have k6_1_1 : w6.cell? ⟨w.heap.size + 1, 1, none⟩ = some (.slice A1 us.length c1) := by rw [(bxcell b6).1 _ _ (by first | omega | (simp; done) | (simp; omega))]; simp [go_sem, *]
    have k6_1_2 : w6.cell? ⟨w.heap.size + 1, 2, none⟩ = some (.slice B1 vs.length d1) := by rw [(bxcell b6).1 _ _ (by first | omega | (simp; done) | (simp; omega))]; simp [go_sem, *]
    clear k2_0_0 k2_0_1 k2_0_2 k2_1_0 k2_1_1 k2_1_2 y2_0 y2_1
    go_wp2_with fail
    (with_reducible refine (laws_toRat s0 A0 B0 _ c0 _ d0 xs ys _ (S0.out.below (by repeat' (first | (with_reducible exact Below.refl _ _) | (with_reducible refine Below.alloc ?_ ?_ _) | (with_reducible refine Below.setCell ?_ ?_ _) | (with_reducible refine below_drewN ?_ _) | (with_reducible refine Below.drew ?_) | (with_reducible refine below_step (by assumption) ?_ ?_) | omega | (simp; done) | (simp; omega)))) (R0.out.below (by repeat' (first | (with_reducible exact Below.refl _ _) | (with_reducible refine Below.alloc ?_ ?_ _) | (with_reducible refine Below.setCell ?_ ?_ _) | (with_reducible refine below_drewN ?_ _) | (with_reducible refine Below.drew ?_) | (with_reducible refine below_step (by assumption) ?_ ?_) | omega | (simp; done) | (simp; omega)))) (by omega) (by omega)).mono ?_)
    rintro e w7 ⟨A7, n7, c7, B7, m7, d7, rfl, o7, b7⟩
    have O7 := PairR.wide o7 (lo' := w6.heap.size) (by first | omega | (simp; done) | (simp; omega)) (Nat.le_refl _)
    clear o7
    have z7 := b7.size
    (try simp at z7)
    have y7_0 : w.heap.size < w7.heap.size := by omega
    have y7_1 : w.heap.size + 1 < w7.heap.size := by omega
    have y7_2 : g6 < w7.heap.size := by omega
    have k7_0_0 : w7.cell? ⟨w.heap.size, 0, none⟩ = some (.bool s0) := by rw [(bxcell b7).1 _ _ (by first | omega | (simp; done) | (simp; omega))]; simp [go_sem, *]
    have k7_0_1 : w7.cell? ⟨w.heap.size, 1, none⟩ = some (.slice A0 xs.length c0) := by rw [(bxcell b7).1 _ _ (by first | omega | (simp; done) | (simp; omega))]; simp [go_sem, *]
    have k7_0_2 : w7.cell? ⟨w.heap.size, 2, none⟩ = some (.slice B0 ys.length d0) := by rw [(bxcell b7).1 _ _ (by first | omega | (simp; done) | (simp; omega))]; simp [go_sem, *]
    have k7_1_0 : w7.cell? ⟨w.heap.size + 1, 0, none⟩ = some (.bool s1) := by rw [(bxcell b7).1 _ _ (by first | omega | (simp; done) | (simp; omega))]; simp [go_sem, *]
    have k7_1_1 : w7.cell? ⟨w.heap.size + 1, 1, none⟩ = some (.slice A1 us.length c1) := by rw [(bxcell b7).1 _ _ (by first | omega | (simp; done) | (simp; omega))]; simp [go_sem, *]
    have k7_1_2 : w7.cell? ⟨w.heap.size + 1, 2, none⟩ = some (.slice B1 vs.length d1) := by rw [(bxcell b7).1 _ _ (by first | omega | (simp; done) | (simp; omega))]; simp [go_sem, *]
    have k7_2_0 : w7.cell? ⟨g6, 0, none⟩ = some (.bool rs0) := by rw [(bxcell b7).1 _ _ (by first | omega | (simp; done) | (simp; omega))]; simp [go_sem, *]
    have k7_2_1 : w7.cell? ⟨g6, 1, none⟩ = some (.slice A6 n6 c6) := by rw [(bxcell b7).1 _ _ (by first | omega | (simp; done) | (simp; omega))]; simp [go_sem, *]
    have k7_2_2 : w7.cell? ⟨g6, 2, none⟩ = some (.slice B6 m6 d6) := by rw [(bxcell b7).1 _ _ (by first | omega | (simp; done) | (simp; omega))]; simp [go_sem, *]
    clear k6_0_0 k6_0_1 k6_0_2 k6_1_0 k6_1_1 k6_1_2 gh6 gi6 gj6 y6_0 y6_1
    go_wp2_with fail
    (with_reducible refine (laws_toRat s1 A1 B1 _ c1 _ d1 us vs _ (S1.out.below (by repeat' (first | (with_reducible exact Below.refl _ _) | (with_reducible refine Below.alloc ?_ ?_ _) | (with_reducible refine Below.setCell ?_ ?_ _) | (with_reducible refine below_drewN ?_ _) | (with_reducible refine Below.drew ?_) | (with_reducible refine below_step (by assumption) ?_ ?_) | omega | (simp; done) | (simp; omega)))) (R1.out.below (by repeat' (first | (with_reducible exact Below.refl _ _) | (with_reducible refine Below.alloc ?_ ?_ _) | (with_reducible refine Below.setCell ?_ ?_ _) | (with_reducible refine below_drewN ?_ _) | (with_reducible refine Below.drew ?_) | (with_reducible refine below_step (by assumption) ?_ ?_) | omega | (simp; done) | (simp; omega)))) (by omega) (by omega)).mono ?_)
    rintro e w8 ⟨A8, n8, c8, B8, m8, d8, rfl, o8, b8⟩
    have O8 := PairR.wide o8 (lo' := w7.heap.size + 1) (by first | omega | (simp; done) | (simp; omega)) (Nat.le_refl _)
    clear o8
    have z8 := b8.size
    (try simp at z8)
    have y8_0 : w.heap.size < w8.heap.size := by omega
    have y8_1 : w.heap.size + 1 < w8.heap.size := by omega
    have y8_2 : g6 < w8.heap.size := by omega
    have y8_3 : w7.heap.size < w8.heap.size := by omega
    have k8_0_0 : w8.cell? ⟨w.heap.size, 0, none⟩ = some (.bool s0) := by rw [(bxcell b8).1 _ _ (by first | omega | (simp; done) | (simp; omega))]; simp [go_sem, *]
    have k8_0_1 : w8.cell? ⟨w.heap.size, 1, none⟩ = some (.slice A0 xs.length c0) := by rw [(bxcell b8).1 _ _ (by first | omega | (simp; done) | (simp; omega))]; simp [go_sem, *]
    have k8_0_2 : w8.cell? ⟨w.heap.size, 2, none⟩ = some (.slice B0 ys.length d0) := by rw [(bxcell b8).1 _ _ (by first | omega | (simp; done) | (simp; omega))]; simp [go_sem, *]
    have k8_1_0 : w8.cell? ⟨w.heap.size + 1, 0, none⟩ = some (.bool s1) := by rw [(bxcell b8).1 _ _ (by first | omega | (simp; done) | (simp; omega))]; simp [go_sem, *]
    have k8_1_1 : w8.cell? ⟨w.heap.size + 1, 1, none⟩ = some (.slice A1 us.length c1) := by rw [(bxcell b8).1 _ _ (by first | omega | (simp; done) | (simp; omega))]; simp [go_sem, *]
    have k8_1_2 : w8.cell? ⟨w.heap.size + 1, 2, none⟩ = some (.slice B1 vs.length d1) := by rw [(bxcell b8).1 _ _ (by first | omega | (simp; done) | (simp; omega))]; simp [go_sem, *]
    have k8_2_0 : w8.cell? ⟨g6, 0, none⟩ = some (.bool rs0) := by rw [(bxcell b8).1 _ _ (by first | omega | (simp; done) | (simp; omega))]; simp [go_sem, *]
    have k8_2_1 : w8.cell? ⟨g6, 1, none⟩ = some (.slice A6 n6 c6) := by rw [(bxcell b8).1 _ _ (by first | omega | (simp; done) | (simp; omega))]; simp [go_sem, *]
    have k8_2_2 : w8.cell? ⟨g6, 2, none⟩ = some (.slice B6 m6 d6) := by rw [(bxcell b8).1 _ _ (by first | omega | (simp; done) | (simp; omega))]; simp [go_sem, *]
    have k8_3_0 : w8.cell? ⟨w7.heap.size, 0, none⟩ = some (.bool s0) := by rw [(bxcell b8).1 _ _ (by first | omega | (simp; done) | (simp; omega))]; simp [go_sem, *]
    have k8_3_1 : w8.cell? ⟨w7.heap.size, 1, none⟩ = some (.slice A7 n7 c7) := by rw [(bxcell b8).1 _ _ (by first | omega | (simp; done) | (simp; omega))]; simp [go_sem, *]
    have k8_3_2 : w8.cell? ⟨w7.heap.size, 2, none⟩ = some (.slice B7 m7 d7) := by rw [(bxcell b8).1 _ _ (by first | omega | (simp; done) | (simp; omega))]; simp [go_sem, *]
    clear k7_0_0 k7_0_1 k7_0_2 k7_1_0 k7_1_1 k7_1_2 k7_2_0 k7_2_1 k7_2_2 y7_0 y7_1 y7_2
    go_wp2_with fail
    (with_reducible refine (impl_RatMin s0 s1 _ _ _ _ _ _ _ _ _ _ _ _ xs ys us vs _ (PairR.here O7 (by repeat' (first | (with_reducible exact Below.refl _ _) | (with_reducible refine Below.alloc ?_ ?_ _) | (with_reducible refine Below.setCell ?_ ?_ _) | (with_reducible refine below_drewN ?_ _) | (with_reducible refine Below.drew ?_) | (with_reducible refine below_step (by assumption) ?_ ?_) | omega | (simp; done) | (simp; omega)))).sl1 (PairR.here O7 (by repeat' (first | (with_reducible exact Below.refl _ _) | (with_reducible refine Below.alloc ?_ ?_ _) | (with_reducible refine Below.setCell ?_ ?_ _) | (with_reducible refine below_drewN ?_ _) | (with_reducible refine Below.drew ?_) | (with_reducible refine below_step (by assumption) ?_ ?_) | omega | (simp; done) | (simp; omega)))).sl2 (PairR.here O8 (by repeat' (first | (with_reducible exact Below.refl _ _) | (with_reducible refine Below.alloc ?_ ?_ _) | (with_reducible refine Below.setCell ?_ ?_ _) | (with_reducible refine below_drewN ?_ _) | (with_reducible refine Below.drew ?_) | (with_reducible refine below_step (by assumption) ?_ ?_) | omega | (simp; done) | (simp; omega)))).sl1 (PairR.here O8 (by repeat' (first | (with_reducible exact Below.refl _ _) | (with_reducible refine Below.alloc ?_ ?_ _) | (with_reducible refine Below.setCell ?_ ?_ _) | (with_reducible refine below_drewN ?_ _) | (with_reducible refine Below.drew ?_) | (with_reducible refine below_step (by assumption) ?_ ?_) | omega | (simp; done) | (simp; omega)))).sl2).mono ?_)
    rintro e w9 ⟨A9, n9, c9, B9, m9, d9, rfl, o9, b9⟩
    rw [← X0.out]
    rw [← X1.out, ← X2.out] at o9
    have O9 := PairR.wide o9 (lo' := w8.heap.size + 1) (by first | omega | (simp; done) | (simp; omega)) (Nat.le_refl _)
    clear o9
    have z9 := b9.size
    (try simp at z9)
    have y9_0 : w.heap.size < w9.heap.size := by omega
    have y9_1 : w.heap.size + 1 < w9.heap.size := by omega
    have y9_2 : g6 < w9.heap.size := by omega
    have y9_3 : w7.heap.size < w9.heap.size := by omega
    have y9_4 : w8.heap.size < w9.heap.size := by omega
    have k9_0_0 : w9.cell? ⟨w.heap.size, 0, none⟩ = some (.bool s0) := by rw [(bxcell b9).1 _ _ (by first | omega | (simp; done) | (simp; omega))]; simp [go_sem, *]
    have k9_0_1 : w9.cell? ⟨w.heap.size, 1, none⟩ = some (.slice A0 xs.length c0) := by rw [(bxcell b9).1 _ _ (by first | omega | (simp; done) | (simp; omega))]; simp [go_sem, *]
    have k9_0_2 : w9.cell? ⟨w.heap.size, 2, none⟩ = some (.slice B0 ys.length d0) := by rw [(bxcell b9).1 _ _ (by first | omega | (simp; done) | (simp; omega))]; simp [go_sem, *]
    have k9_1_0 : w9.cell? ⟨w.heap.size + 1, 0, none⟩ = some (.bool s1) := by rw [(bxcell b9).1 _ _ (by first | omega | (simp; done) | (simp; omega))]; simp [go_sem, *]
    have k9_1_1 : w9.cell? ⟨w.heap.size + 1, 1, none⟩ = some (.slice A1 us.length c1) := by rw [(bxcell b9).1 _ _ (by first | omega | (simp; done) | (simp; omega))]; simp [go_sem, *]
    have k9_1_2 : w9.cell? ⟨w.heap.size + 1, 2, none⟩ = some (.slice B1 vs.length d1) := by rw [(bxcell b9).1 _ _ (by first | omega | (simp; done) | (simp; omega))]; simp [go_sem, *]
    have k9_2_0 : w9.cell? ⟨g6, 0, none⟩ = some (.bool rs0) := by rw [(bxcell b9).1 _ _ (by first | omega | (simp; done) | (simp; omega))]; simp [go_sem, *]
    have k9_2_1 : w9.cell? ⟨g6, 1, none⟩ = some (.slice A6 n6 c6) := by rw [(bxcell b9).1 _ _ (by first | omega | (simp; done) | (simp; omega))]; simp [go_sem, *]
    have k9_2_2 : w9.cell? ⟨g6, 2, none⟩ = some (.slice B6 m6 d6) := by rw [(bxcell b9).1 _ _ (by first | omega | (simp; done) | (simp; omega))]; simp [go_sem, *]
    have k9_3_0 : w9.cell? ⟨w7.heap.size, 0, none⟩ = some (.bool s0) := by rw [(bxcell b9).1 _ _ (by first | omega | (simp; done) | (simp; omega))]; simp [go_sem, *]
    have k9_3_1 : w9.cell? ⟨w7.heap.size, 1, none⟩ = some (.slice A7 n7 c7) := by rw [(bxcell b9).1 _ _ (by first | omega | (simp; done) | (simp; omega))]; simp [go_sem, *]
    have k9_3_2 : w9.cell? ⟨w7.heap.size, 2, none⟩ = some (.slice B7 m7 d7) := by rw [(bxcell b9).1 _ _ (by first | omega | (simp; done) | (simp; omega))]; simp [go_sem, *]
    have k9_4_0 : w9.cell? ⟨w8.heap.size, 0, none⟩ = some (.bool s1) := by rw [(bxcell b9).1 _ _ (by first | omega | (simp; done) | (simp; omega))]; simp [go_sem, *]
    have k9_4_1 : w9.cell? ⟨w8.heap.size, 1, none⟩ = some (.slice A8 n8 c8) := by rw [(bxcell b9).1 _ _ (by first | omega | (simp; done) | (simp; omega))]; simp [go_sem, *]
    have k9_4_2 : w9.cell? ⟨w8.heap.size, 2, none⟩ = some (.slice B8 m8 d8) := by rw [(bxcell b9).1 _ _ (by first | omega | (simp; done) | (simp; omega))]; simp [go_sem, *]
    clear k8_0_0 k8_0_1 k8_0_2 k8_1_0 k8_1_1 k8_1_2 k8_2_0 k8_2_1 k8_2_2 k8_3_0 k8_3_1 k8_3_2 y8_0 y8_1 y8_2 y8_3
    go_wp2_with fail
    (with_reducible refine (eqRat rs0 _ _ _ _ _ _ _ _ _ _ _ _ rs1 rs2 _ (PairR.here O9 (by repeat' (first | (with_reducible exact Below.refl _ _) | (with_reducible refine Below.alloc ?_ ?_ _) | (with_reducible refine Below.setCell ?_ ?_ _) | (with_reducible refine below_drewN ?_ _) | (with_reducible refine Below.drew ?_) | (with_reducible refine below_step (by assumption) ?_ ?_) | omega | (simp; done) | (simp; omega)))).sl1 (PairR.here O9 (by repeat' (first | (with_reducible exact Below.refl _ _) | (with_reducible refine Below.alloc ?_ ?_ _) | (with_reducible refine Below.setCell ?_ ?_ _) | (with_reducible refine below_drewN ?_ _) | (with_reducible refine Below.drew ?_) | (with_reducible refine below_step (by assumption) ?_ ?_) | omega | (simp; done) | (simp; omega)))).sl2 (PairR.here O6 (by repeat' (first | (with_reducible exact Below.refl _ _) | (with_reducible refine Below.alloc ?_ ?_ _) | (with_reducible refine Below.setCell ?_ ?_ _) | (with_reducible refine below_drewN ?_ _) | (with_reducible refine Below.drew ?_) | (with_reducible refine below_step (by assumption) ?_ ?_) | omega | (simp; done) | (simp; omega)))).sl1 (PairR.here O6 (by repeat' (first | (with_reducible exact Below.refl _ _) | (with_reducible refine Below.alloc ?_ ?_ _) | (with_reducible refine Below.setCell ?_ ?_ _) | (with_reducible refine below_drewN ?_ _) | (with_reducible refine Below.drew ?_) | (with_reducible refine below_step (by assumption) ?_ ?_) | omega | (simp; done) | (simp; omega)))).sl2).mono ?_)
    rintro e w10 ⟨rfl, b10⟩
    have z10 := b10.size
    (try simp at z10)
    have y10_0 : w.heap.size < w10.heap.size := by omega
    have y10_1 : w.heap.size + 1 < w10.heap.size := by omega
    have y10_2 : g6 < w10.heap.size := by omega
    have y10_3 : w7.heap.size < w10.heap.size := by omega
    have y10_4 : w8.heap.size < w10.heap.size := by omega
    have y10_5 : w9.heap.size < w10.heap.size := by omega
    have k10_0_0 : w10.cell? ⟨w.heap.size, 0, none⟩ = some (.bool s0) := by rw [(bxcell b10).1 _ _ (by first | omega | (simp; done) | (simp; omega))]; simp [go_sem, *]
    have k10_0_1 : w10.cell? ⟨w.heap.size, 1, none⟩ = some (.slice A0 xs.length c0) := by rw [(bxcell b10).1 _ _ (by first | omega | (simp; done) | (simp; omega))]; simp [go_sem, *]
    have k10_0_2 : w10.cell? ⟨w.heap.size, 2, none⟩ = some (.slice B0 ys.length d0) := by rw [(bxcell b10).1 _ _ (by first | omega | (simp; done) | (simp; omega))]; simp [go_sem, *]
    have k10_1_0 : w10.cell? ⟨w.heap.size + 1, 0, none⟩ = some (.bool s1) := by rw [(bxcell b10).1 _ _ (by first | omega | (simp; done) | (simp; omega))]; simp [go_sem, *]
    have k10_1_1 : w10.cell? ⟨w.heap.size + 1, 1, none⟩ = some (.slice A1 us.length c1) := by rw [(bxcell b10).1 _ _ (by first | omega | (simp; done) | (simp; omega))]; simp [go_sem, *]
    have k10_1_2 : w10.cell? ⟨w.heap.size + 1, 2, none⟩ = some (.slice B1 vs.length d1) := by rw [(bxcell b10).1 _ _ (by first | omega | (simp; done) | (simp; omega))]; simp [go_sem, *]
    have k10_2_0 : w10.cell? ⟨g6, 0, none⟩ = some (.bool rs0) := by rw [(bxcell b10).1 _ _ (by first | omega | (simp; done) | (simp; omega))]; simp [go_sem, *]
    have k10_2_1 : w10.cell? ⟨g6, 1, none⟩ = some (.slice A6 n6 c6) := by rw [(bxcell b10).1 _ _ (by first | omega | (simp; done) | (simp; omega))]; simp [go_sem, *]
    have k10_2_2 : w10.cell? ⟨g6, 2, none⟩ = some (.slice B6 m6 d6) := by rw [(bxcell b10).1 _ _ (by first | omega | (simp; done) | (simp; omega))]; simp [go_sem, *]
    have k10_3_0 : w10.cell? ⟨w7.heap.size, 0, none⟩ = some (.bool s0) := by rw [(bxcell b10).1 _ _ (by first | omega | (simp; done) | (simp; omega))]; simp [go_sem, *]
    have k10_3_1 : w10.cell? ⟨w7.heap.size, 1, none⟩ = some (.slice A7 n7 c7) := by rw [(bxcell b10).1 _ _ (by first | omega | (simp; done) | (simp; omega))]; simp [go_sem, *]
    have k10_3_2 : w10.cell? ⟨w7.heap.size, 2, none⟩ = some (.slice B7 m7 d7) := by rw [(bxcell b10).1 _ _ (by first | omega | (simp; done) | (simp; omega))]; simp [go_sem, *]
    have k10_4_0 : w10.cell? ⟨w8.heap.size, 0, none⟩ = some (.bool s1) := by rw [(bxcell b10).1 _ _ (by first | omega | (simp; done) | (simp; omega))]; simp [go_sem, *]
    have k10_4_1 : w10.cell? ⟨w8.heap.size, 1, none⟩ = some (.slice A8 n8 c8) := by rw [(bxcell b10).1 _ _ (by first | omega | (simp; done) | (simp; omega))]; simp [go_sem, *]
    have k10_4_2 : w10.cell? ⟨w8.heap.size, 2, none⟩ = some (.slice B8 m8 d8) := by rw [(bxcell b10).1 _ _ (by first | omega | (simp; done) | (simp; omega))]; simp [go_sem, *]
    have k10_5_0 : w10.cell? ⟨w9.heap.size, 0, none⟩ = some (.bool rs0) := by rw [(bxcell b10).1 _ _ (by first | omega | (simp; done) | (simp; omega))]; simp [go_sem, *]
    have k10_5_1 : w10.cell? ⟨w9.heap.size, 1, none⟩ = some (.slice A9 n9 c9) := by rw [(bxcell b10).1 _ _ (by first | omega | (simp; done) | (simp; omega))]; simp [go_sem, *]
    have k10_5_2 : w10.cell? ⟨w9.heap.size, 2, none⟩ = some (.slice B9 m9 d9) := by rw [(bxcell b10).1 _ _ (by first | omega | (simp; done) | (simp; omega))]; simp [go_sem, *]
    clear k9_0_0 k9_0_1 k9_0_2 k9_1_0 k9_1_1 k9_1_2 k9_2_0 k9_2_1 k9_2_2 k9_3_0 k9_3_1 k9_3_2 k9_4_0 k9_4_1 k9_4_2 y9_0 y9_1 y9_2 y9_3 y9_4
    go_wp2_with fail
    go_region_held3 (fun w' => w'.cell? ⟨w7.heap.size, 0, none⟩ = some (.bool s0) ∧ w'.cell? ⟨w7.heap.size, 1, none⟩ = some (.slice A7 n7 c7) ∧ w'.cell? ⟨w7.heap.size, 2, none⟩ = some (.slice B7 m7 d7) ∧ w'.cell? ⟨w.heap.size, 0, none⟩ = some (.bool s0) ∧ w'.cell? ⟨w.heap.size, 1, none⟩ = some (.slice A0 xs.length c0) ∧ w'.cell? ⟨w.heap.size, 2, none⟩ = some (.slice B0 ys.length d0)) (go_keep)
      (first
        | (go_at_call 31; (with_reducible refine (laws_toRat s0 A0 B0 _ c0 _ d0 xs ys _ (S0.out.below (by repeat' (first | (with_reducible exact Below.refl _ _) | (with_reducible refine Below.alloc ?_ ?_ _) | (with_reducible refine Below.setCell ?_ ?_ _) | (with_reducible refine below_drewN ?_ _) | (with_reducible refine Below.drew ?_) | (with_reducible refine below_step (by assumption) ?_ ?_) | omega | (simp; done) | (simp; omega)))) (R0.out.below (by repeat' (first | (with_reducible exact Below.refl _ _) | (with_reducible refine Below.alloc ?_ ?_ _) | (with_reducible refine Below.setCell ?_ ?_ _) | (with_reducible refine below_drewN ?_ _) | (with_reducible refine Below.drew ?_) | (with_reducible refine below_step (by assumption) ?_ ?_) | omega | (simp; done) | (simp; omega)))) (by omega) (by omega)).mono ?_); rintro e w11 ⟨A11, n11, c11, B11, m11, d11, rfl, o11, b11⟩; obtain ⟨hc11, hf11⟩ := bxcell b11; have q11_0 := fun o => hc11 (w.heap.size) o (by first | omega | (simp; done) | (simp; omega)); have q11_1 := fun o => hc11 (w.heap.size + 1) o (by first | omega | (simp; done) | (simp; omega)); have q11_2 := fun o => hc11 (g6) o (by first | omega | (simp; done) | (simp; omega)); have q11_3 := fun o => hc11 (w7.heap.size) o (by first | omega | (simp; done) | (simp; omega)); have q11_4 := fun o => hc11 (w8.heap.size) o (by first | omega | (simp; done) | (simp; omega)); have q11_5 := fun o => hc11 (w9.heap.size) o (by first | omega | (simp; done) | (simp; omega)); have z11 := b11.size; (try simp at z11); have ya11_0 : w.heap.size < w11.heap.size := (by omega); have yb11_0 := Nat.ne_of_lt ya11_0; have yc11_0 := (Nat.ne_of_lt ya11_0).symm; have ya11_1 : w.heap.size + 1 < w11.heap.size := (by omega); have yb11_1 := Nat.ne_of_lt ya11_1; have yc11_1 := (Nat.ne_of_lt ya11_1).symm; have ya11_2 : g6 < w11.heap.size := (by omega); have yb11_2 := Nat.ne_of_lt ya11_2; have yc11_2 := (Nat.ne_of_lt ya11_2).symm; have ya11_3 : w7.heap.size < w11.heap.size := (by omega); have yb11_3 := Nat.ne_of_lt ya11_3; have yc11_3 := (Nat.ne_of_lt ya11_3).symm; have ya11_4 : w8.heap.size < w11.heap.size := (by omega); have yb11_4 := Nat.ne_of_lt ya11_4; have yc11_4 := (Nat.ne_of_lt ya11_4).symm; have ya11_5 : w9.heap.size < w11.heap.size := (by omega); have yb11_5 := Nat.ne_of_lt ya11_5; have yc11_5 := (Nat.ne_of_lt ya11_5).symm; have O11 := PairR.wide o11 (lo' := w10.heap.size) (by first | omega | (simp; done) | (simp; omega)) (Nat.le_refl _); clear o11)
        | (go_at_call 15; (with_reducible refine (eqRat s0 _ _ _ _ _ _ _ _ _ _ _ _ xs ys _ (PairR.here O7 (by repeat' (first | (with_reducible exact Below.refl _ _) | (with_reducible refine Below.alloc ?_ ?_ _) | (with_reducible refine Below.setCell ?_ ?_ _) | (with_reducible refine below_drewN ?_ _) | (with_reducible refine Below.drew ?_) | (with_reducible refine below_step (by assumption) ?_ ?_) | omega | (simp; done) | (simp; omega)))).sl1 (PairR.here O7 (by repeat' (first | (with_reducible exact Below.refl _ _) | (with_reducible refine Below.alloc ?_ ?_ _) | (with_reducible refine Below.setCell ?_ ?_ _) | (with_reducible refine below_drewN ?_ _) | (with_reducible refine Below.drew ?_) | (with_reducible refine below_step (by assumption) ?_ ?_) | omega | (simp; done) | (simp; omega)))).sl2 (PairR.here O11 (by repeat' (first | (with_reducible exact Below.refl _ _) | (with_reducible refine Below.alloc ?_ ?_ _) | (with_reducible refine Below.setCell ?_ ?_ _) | (with_reducible refine below_drewN ?_ _) | (with_reducible refine Below.drew ?_) | (with_reducible refine below_step (by assumption) ?_ ?_) | omega | (simp; done) | (simp; omega)))).sl1 (PairR.here O11 (by repeat' (first | (with_reducible exact Below.refl _ _) | (with_reducible refine Below.alloc ?_ ?_ _) | (with_reducible refine Below.setCell ?_ ?_ _) | (with_reducible refine below_drewN ?_ _) | (with_reducible refine Below.drew ?_) | (with_reducible refine below_step (by assumption) ?_ ?_) | omega | (simp; done) | (simp; omega)))).sl2).mono ?_); rintro e w12 ⟨rfl, b12⟩; obtain ⟨hc12, hf12⟩ := bxcell b12; have q12_0 := fun o => hc12 (w.heap.size) o (by first | omega | (simp; done) | (simp; omega)); have q12_1 := fun o => hc12 (w.heap.size + 1) o (by first | omega | (simp; done) | (simp; omega)); have q12_2 := fun o => hc12 (g6) o (by first | omega | (simp; done) | (simp; omega)); have q12_3 := fun o => hc12 (w7.heap.size) o (by first | omega | (simp; done) | (simp; omega)); have q12_4 := fun o => hc12 (w8.heap.size) o (by first | omega | (simp; done) | (simp; omega)); have q12_5 := fun o => hc12 (w9.heap.size) o (by first | omega | (simp; done) | (simp; omega)); have z12 := b12.size; (try simp at z12); have ya12_0 : w.heap.size < w12.heap.size := (by omega); have yb12_0 := Nat.ne_of_lt ya12_0; have yc12_0 := (Nat.ne_of_lt ya12_0).symm; have ya12_1 : w.heap.size + 1 < w12.heap.size := (by omega); have yb12_1 := Nat.ne_of_lt ya12_1; have yc12_1 := (Nat.ne_of_lt ya12_1).symm; have ya12_2 : g6 < w12.heap.size := (by omega); have yb12_2 := Nat.ne_of_lt ya12_2; have yc12_2 := (Nat.ne_of_lt ya12_2).symm; have ya12_3 : w7.heap.size < w12.heap.size := (by omega); have yb12_3 := Nat.ne_of_lt ya12_3; have yc12_3 := (Nat.ne_of_lt ya12_3).symm; have ya12_4 : w8.heap.size < w12.heap.size := (by omega); have yb12_4 := Nat.ne_of_lt ya12_4; have yc12_4 := (Nat.ne_of_lt ya12_4).symm; have ya12_5 : w9.heap.size < w12.heap.size := (by omega); have yb12_5 := Nat.ne_of_lt ya12_5; have yc12_5 := (Nat.ne_of_lt ya12_5).symm))
    have z12 := b12.size
    (try simp at z12)
    have y12_0 : w.heap.size < w12.heap.size := by omega
    have y12_1 : w.heap.size + 1 < w12.heap.size := by omega
    have y12_2 : g6 < w12.heap.size := by omega
    have y12_3 : w7.heap.size < w12.heap.size := by omega
    have y12_4 : w8.heap.size < w12.heap.size := by omega
    have y12_5 : w9.heap.size < w12.heap.size := by omega
    have k12_0_0 : w12.cell? ⟨w.heap.size, 0, none⟩ = some (.bool s0) := by rw [(bxcell b12).1 _ _ (by first | omega | (simp; done) | (simp; omega))]; simp [go_sem, *]
    have k12_0_1 : w12.cell? ⟨w.heap.size, 1, none⟩ = some (.slice A0 xs.length c0) := by rw [(bxcell b12).1 _ _ (by first | omega | (simp; done) | (simp; omega))]; simp [go_sem, *]
    have k12_0_2 : w12.cell? ⟨w.heap.size, 2, none⟩ = some (.slice B0 ys.length d0) := by rw [(bxcell b12).1 _ _ (by first | omega | (simp; done) | (simp; omega))]; simp [go_sem, *]
    have k12_1_0 : w12.cell? ⟨w.heap.size + 1, 0, none⟩ = some (.bool s1) := by rw [(bxcell b12).1 _ _ (by first | omega | (simp; done) | (simp; omega))]; simp [go_sem, *]
    have k12_1_1 : w12.cell? ⟨w.heap.size + 1, 1, none⟩ = some (.slice A1 us.length c1) := by rw [(bxcell b12).1 _ _ (by first | omega | (simp; done) | (simp; omega))]; simp [go_sem, *]
    have k12_1_2 : w12.cell? ⟨w.heap.size + 1, 2, none⟩ = some (.slice B1 vs.length d1) := by rw [(bxcell b12).1 _ _ (by first | omega | (simp; done) | (simp; omega))]; simp [go_sem, *]
    have k12_2_0 : w12.cell? ⟨g6, 0, none⟩ = some (.bool rs0) := by rw [(bxcell b12).1 _ _ (by first | omega | (simp; done) | (simp; omega))]; simp [go_sem, *]
    have k12_2_1 : w12.cell? ⟨g6, 1, none⟩ = some (.slice A6 n6 c6) := by rw [(bxcell b12).1 _ _ (by first | omega | (simp; done) | (simp; omega))]; simp [go_sem, *]
    have k12_2_2 : w12.cell? ⟨g6, 2, none⟩ = some (.slice B6 m6 d6) := by rw [(bxcell b12).1 _ _ (by first | omega | (simp; done) | (simp; omega))]; simp [go_sem, *]
    have k12_3_0 : w12.cell? ⟨w7.heap.size, 0, none⟩ = some (.bool s0) := by rw [(bxcell b12).1 _ _ (by first | omega | (simp; done) | (simp; omega))]; simp [go_sem, *]
    have k12_3_1 : w12.cell? ⟨w7.heap.size, 1, none⟩ = some (.slice A7 n7 c7) := by rw [(bxcell b12).1 _ _ (by first | omega | (simp; done) | (simp; omega))]; simp [go_sem, *]
    have k12_3_2 : w12.cell? ⟨w7.heap.size, 2, none⟩ = some (.slice B7 m7 d7) := by rw [(bxcell b12).1 _ _ (by first | omega | (simp; done) | (simp; omega))]; simp [go_sem, *]
    have k12_4_0 : w12.cell? ⟨w8.heap.size, 0, none⟩ = some (.bool s1) := by rw [(bxcell b12).1 _ _ (by first | omega | (simp; done) | (simp; omega))]; simp [go_sem, *]
    have k12_4_1 : w12.cell? ⟨w8.heap.size, 1, none⟩ = some (.slice A8 n8 c8) := by rw [(bxcell b12).1 _ _ (by first | omega | (simp; done) | (simp; omega))]; simp [go_sem, *]
    have k12_4_2 : w12.cell? ⟨w8.heap.size, 2, none⟩ = some (.slice B8 m8 d8) := by rw [(bxcell b12).1 _ _ (by first | omega | (simp; done) | (simp; omega))]; simp [go_sem, *]
    have k12_5_0 : w12.cell? ⟨w9.heap.size, 0, none⟩ = some (.bool rs0) := by rw [(bxcell b12).1 _ _ (by first | omega | (simp; done) | (simp; omega))]; simp [go_sem, *]
    have k12_5_1 : w12.cell? ⟨w9.heap.size, 1, none⟩ = some (.slice A9 n9 c9) := by rw [(bxcell b12).1 _ _ (by first | omega | (simp; done) | (simp; omega))]; simp [go_sem, *]
    have k12_5_2 : w12.cell? ⟨w9.heap.size, 2, none⟩ = some (.slice B9 m9 d9) := by rw [(bxcell b12).1 _ _ (by first | omega | (simp; done) | (simp; omega))]; simp [go_sem, *]
    clear k10_0_0 k10_0_1 k10_0_2 k10_1_0 k10_1_1 k10_1_2 k10_2_0 k10_2_1 k10_2_2 k10_3_0 k10_3_1 k10_3_2 k10_4_0 k10_4_1 k10_4_2 k10_5_0 k10_5_1 k10_5_2 y10_0 y10_1 y10_2 y10_3 y10_4 y10_5 hc11 hf11 q11_0 q11_1 q11_2 q11_3 q11_4 q11_5 yb11_0 yc11_0 yb11_1 yc11_1 yb11_2 yc11_2 yb11_3 yc11_3 yb11_4 yc11_4 yb11_5 yc11_5 hc12 hf12 q12_0 q12_1 q12_2 q12_3 q12_4 q12_5 yb12_0 yc12_0 yb12_1 yc12_1 yb12_2 yc12_2 yb12_3 yc12_3 yb12_4 yc12_4 yb12_5 yc12_5
    go_wp2_with fail
    go_region_held3 (fun w' => w'.cell? ⟨w8.heap.size, 0, none⟩ = some (.bool s1) ∧ w'.cell? ⟨w8.heap.size, 1, none⟩ = some (.slice A8 n8 c8) ∧ w'.cell? ⟨w8.heap.size, 2, none⟩ = some (.slice B8 m8 d8) ∧ w'.cell? ⟨w.heap.size + 1, 0, none⟩ = some (.bool s1) ∧ w'.cell? ⟨w.heap.size + 1, 1, none⟩ = some (.slice A1 us.length c1) ∧ w'.cell? ⟨w.heap.size + 1, 2, none⟩ = some (.slice B1 vs.length d1)) (go_keep)
      (first
        | (go_at_call 31; (with_reducible refine (laws_toRat s1 A1 B1 _ c1 _ d1 us vs _ (S1.out.below (by repeat' (first | (with_reducible exact Below.refl _ _) | (with_reducible refine Below.alloc ?_ ?_ _) | (with_reducible refine Below.setCell ?_ ?_ _) | (with_reducible refine below_drewN ?_ _) | (with_reducible refine Below.drew ?_) | (with_reducible refine below_step (by assumption) ?_ ?_) | omega | (simp; done) | (simp; omega)))) (R1.out.below (by repeat' (first | (with_reducible exact Below.refl _ _) | (with_reducible refine Below.alloc ?_ ?_ _) | (with_reducible refine Below.setCell ?_ ?_ _) | (with_reducible refine below_drewN ?_ _) | (with_reducible refine Below.drew ?_) | (with_reducible refine below_step (by assumption) ?_ ?_) | omega | (simp; done) | (simp; omega)))) (by omega) (by omega)).mono ?_); rintro e w13 ⟨A13, n13, c13, B13, m13, d13, rfl, o13, b13⟩; obtain ⟨hc13, hf13⟩ := bxcell b13; have q13_0 := fun o => hc13 (w.heap.size) o (by first | omega | (simp; done) | (simp; omega)); have q13_1 := fun o => hc13 (w.heap.size + 1) o (by first | omega | (simp; done) | (simp; omega)); have q13_2 := fun o => hc13 (g6) o (by first | omega | (simp; done) | (simp; omega)); have q13_3 := fun o => hc13 (w7.heap.size) o (by first | omega | (simp; done) | (simp; omega)); have q13_4 := fun o => hc13 (w8.heap.size) o (by first | omega | (simp; done) | (simp; omega)); have q13_5 := fun o => hc13 (w9.heap.size) o (by first | omega | (simp; done) | (simp; omega)); have z13 := b13.size; (try simp at z13); have ya13_0 : w.heap.size < w13.heap.size := (by omega); have yb13_0 := Nat.ne_of_lt ya13_0; have yc13_0 := (Nat.ne_of_lt ya13_0).symm; have ya13_1 : w.heap.size + 1 < w13.heap.size := (by omega); have yb13_1 := Nat.ne_of_lt ya13_1; have yc13_1 := (Nat.ne_of_lt ya13_1).symm; have ya13_2 : g6 < w13.heap.size := (by omega); have yb13_2 := Nat.ne_of_lt ya13_2; have yc13_2 := (Nat.ne_of_lt ya13_2).symm; have ya13_3 : w7.heap.size < w13.heap.size := (by omega); have yb13_3 := Nat.ne_of_lt ya13_3; have yc13_3 := (Nat.ne_of_lt ya13_3).symm; have ya13_4 : w8.heap.size < w13.heap.size := (by omega); have yb13_4 := Nat.ne_of_lt ya13_4; have yc13_4 := (Nat.ne_of_lt ya13_4).symm; have ya13_5 : w9.heap.size < w13.heap.size := (by omega); have yb13_5 := Nat.ne_of_lt ya13_5; have yc13_5 := (Nat.ne_of_lt ya13_5).symm; have O13 := PairR.wide o13 (lo' := w12.heap.size) (by first | omega | (simp; done) | (simp; omega)) (Nat.le_refl _); clear o13)
        | (go_at_call 15; (with_reducible refine (eqRat s1 _ _ _ _ _ _ _ _ _ _ _ _ us vs _ (PairR.here O8 (by repeat' (first | (with_reducible exact Below.refl _ _) | (with_reducible refine Below.alloc ?_ ?_ _) | (with_reducible refine Below.setCell ?_ ?_ _) | (with_reducible refine below_drewN ?_ _) | (with_reducible refine Below.drew ?_) | (with_reducible refine below_step (by assumption) ?_ ?_) | omega | (simp; done) | (simp; omega)))).sl1 (PairR.here O8 (by repeat' (first | (with_reducible exact Below.refl _ _) | (with_reducible refine Below.alloc ?_ ?_ _) | (with_reducible refine Below.setCell ?_ ?_ _) | (with_reducible refine below_drewN ?_ _) | (with_reducible refine Below.drew ?_) | (with_reducible refine below_step (by assumption) ?_ ?_) | omega | (simp; done) | (simp; omega)))).sl2 (PairR.here O13 (by repeat' (first | (with_reducible exact Below.refl _ _) | (with_reducible refine Below.alloc ?_ ?_ _) | (with_reducible refine Below.setCell ?_ ?_ _) | (with_reducible refine below_drewN ?_ _) | (with_reducible refine Below.drew ?_) | (with_reducible refine below_step (by assumption) ?_ ?_) | omega | (simp; done) | (simp; omega)))).sl1 (PairR.here O13 (by repeat' (first | (with_reducible exact Below.refl _ _) | (with_reducible refine Below.alloc ?_ ?_ _) | (with_reducible refine Below.setCell ?_ ?_ _) | (with_reducible refine below_drewN ?_ _) | (with_reducible refine Below.drew ?_) | (with_reducible refine below_step (by assumption) ?_ ?_) | omega | (simp; done) | (simp; omega)))).sl2).mono ?_); rintro e w14 ⟨rfl, b14⟩; obtain ⟨hc14, hf14⟩ := bxcell b14; have q14_0 := fun o => hc14 (w.heap.size) o (by first | omega | (simp; done) | (simp; omega)); have q14_1 := fun o => hc14 (w.heap.size + 1) o (by first | omega | (simp; done) | (simp; omega)); have q14_2 := fun o => hc14 (g6) o (by first | omega | (simp; done) | (simp; omega)); have q14_3 := fun o => hc14 (w7.heap.size) o (by first | omega | (simp; done) | (simp; omega)); have q14_4 := fun o => hc14 (w8.heap.size) o (by first | omega | (simp; done) | (simp; omega)); have q14_5 := fun o => hc14 (w9.heap.size) o (by first | omega | (simp; done) | (simp; omega)); have z14 := b14.size; (try simp at z14); have ya14_0 : w.heap.size < w14.heap.size := (by omega); have yb14_0 := Nat.ne_of_lt ya14_0; have yc14_0 := (Nat.ne_of_lt ya14_0).symm; have ya14_1 : w.heap.size + 1 < w14.heap.size := (by omega); have yb14_1 := Nat.ne_of_lt ya14_1; have yc14_1 := (Nat.ne_of_lt ya14_1).symm; have ya14_2 : g6 < w14.heap.size := (by omega); have yb14_2 := Nat.ne_of_lt ya14_2; have yc14_2 := (Nat.ne_of_lt ya14_2).symm; have ya14_3 : w7.heap.size < w14.heap.size := (by omega); have yb14_3 := Nat.ne_of_lt ya14_3; have yc14_3 := (Nat.ne_of_lt ya14_3).symm; have ya14_4 : w8.heap.size < w14.heap.size := (by omega); have yb14_4 := Nat.ne_of_lt ya14_4; have yc14_4 := (Nat.ne_of_lt ya14_4).symm; have ya14_5 : w9.heap.size < w14.heap.size := (by omega); have yb14_5 := Nat.ne_of_lt ya14_5; have yc14_5 := (Nat.ne_of_lt ya14_5).symm))
    have z14 := b14.size
    (try simp at z14)
    have y14_0 : w.heap.size < w14.heap.size := by omega
    have y14_1 : w.heap.size + 1 < w14.heap.size := by omega
    have y14_2 : g6 < w14.heap.size := by omega
    have y14_3 : w7.heap.size < w14.heap.size := by omega
    have y14_4 : w8.heap.size < w14.heap.size := by omega
    have y14_5 : w9.heap.size < w14.heap.size := by omega
    have k14_0_0 : w14.cell? ⟨w.heap.size, 0, none⟩ = some (.bool s0) := by rw [(bxcell b14).1 _ _ (by first | omega | (simp; done) | (simp; omega))]; simp [go_sem, *]
    have k14_0_1 : w14.cell? ⟨w.heap.size, 1, none⟩ = some (.slice A0 xs.length c0) := by rw [(bxcell b14).1 _ _ (by first | omega | (simp; done) | (simp; omega))]; simp [go_sem, *]
    have k14_0_2 : w14.cell? ⟨w.heap.size, 2, none⟩ = some (.slice B0 ys.length d0) := by rw [(bxcell b14).1 _ _ (by first | omega | (simp; done) | (simp; omega))]; simp [go_sem, *]
    have k14_1_0 : w14.cell? ⟨w.heap.size + 1, 0, none⟩ = some (.bool s1) := by rw [(bxcell b14).1 _ _ (by first | omega | (simp; done) | (simp; omega))]; simp [go_sem, *]
    have k14_1_1 : w14.cell? ⟨w.heap.size + 1, 1, none⟩ = some (.slice A1 us.length c1) := by rw [(bxcell b14).1 _ _ (by first | omega | (simp; done) | (simp; omega))]; simp [go_sem, *]
    have k14_1_2 : w14.cell? ⟨w.heap.size + 1, 2, none⟩ = some (.slice B1 vs.length d1) := by rw [(bxcell b14).1 _ _ (by first | omega | (simp; done) | (simp; omega))]; simp [go_sem, *]
    have k14_2_0 : w14.cell? ⟨g6, 0, none⟩ = some (.bool rs0) := by rw [(bxcell b14).1 _ _ (by first | omega | (simp; done) | (simp; omega))]; simp [go_sem, *]
    have k14_2_1 : w14.cell? ⟨g6, 1, none⟩ = some (.slice A6 n6 c6) := by rw [(bxcell b14).1 _ _ (by first | omega | (simp; done) | (simp; omega))]; simp [go_sem, *]
    have k14_2_2 : w14.cell? ⟨g6, 2, none⟩ = some (.slice B6 m6 d6) := by rw [(bxcell b14).1 _ _ (by first | omega | (simp; done) | (simp; omega))]; simp [go_sem, *]
    have k14_3_0 : w14.cell? ⟨w7.heap.size, 0, none⟩ = some (.bool s0) := by rw [(bxcell b14).1 _ _ (by first | omega | (simp; done) | (simp; omega))]; simp [go_sem, *]
    have k14_3_1 : w14.cell? ⟨w7.heap.size, 1, none⟩ = some (.slice A7 n7 c7) := by rw [(bxcell b14).1 _ _ (by first | omega | (simp; done) | (simp; omega))]; simp [go_sem, *]
    have k14_3_2 : w14.cell? ⟨w7.heap.size, 2, none⟩ = some (.slice B7 m7 d7) := by rw [(bxcell b14).1 _ _ (by first | omega | (simp; done) | (simp; omega))]; simp [go_sem, *]
    have k14_4_0 : w14.cell? ⟨w8.heap.size, 0, none⟩ = some (.bool s1) := by rw [(bxcell b14).1 _ _ (by first | omega | (simp; done) | (simp; omega))]; simp [go_sem, *]
    have k14_4_1 : w14.cell? ⟨w8.heap.size, 1, none⟩ = some (.slice A8 n8 c8) := by rw [(bxcell b14).1 _ _ (by first | omega | (simp; done) | (simp; omega))]; simp [go_sem, *]
    have k14_4_2 : w14.cell? ⟨w8.heap.size, 2, none⟩ = some (.slice B8 m8 d8) := by rw [(bxcell b14).1 _ _ (by first | omega | (simp; done) | (simp; omega))]; simp [go_sem, *]
    have k14_5_0 : w14.cell? ⟨w9.heap.size, 0, none⟩ = some (.bool rs0) := by rw [(bxcell b14).1 _ _ (by first | omega | (simp; done) | (simp; omega))]; simp [go_sem, *]
    have k14_5_1 : w14.cell? ⟨w9.heap.size, 1, none⟩ = some (.slice A9 n9 c9) := by rw [(bxcell b14).1 _ _ (by first | omega | (simp; done) | (simp; omega))]; simp [go_sem, *]
    have k14_5_2 : w14.cell? ⟨w9.heap.size, 2, none⟩ = some (.slice B9 m9 d9) := by rw [(bxcell b14).1 _ _ (by first | omega | (simp; done) | (simp; omega))]; simp [go_sem, *]
    clear k12_0_0 k12_0_1 k12_0_2 k12_1_0 k12_1_1 k12_1_2 k12_2_0 k12_2_1 k12_2_2 k12_3_0 k12_3_1 k12_3_2 k12_4_0 k12_4_1 k12_4_2 k12_5_0 k12_5_1 k12_5_2 y12_0 y12_1 y12_2 y12_3 y12_4 y12_5 hc13 hf13 q13_0 q13_1 q13_2 q13_3 q13_4 q13_5 yb13_0 yc13_0 yb13_1 yc13_1 yb13_2 yc13_2 yb13_3 yc13_3 yb13_4 yc13_4 yb13_5 yc13_5 hc14 hf14 q14_0 q14_1 q14_2 q14_3 q14_4 q14_5 yb14_0 yc14_0 yb14_1 yc14_1 yb14_2 yc14_2 yb14_3 yc14_3 yb14_4 yc14_4 yb14_5 yc14_5
    go_wp2_with fail
    (with_reducible refine (markRat s0 _ _ _ _ _ _ xs ys (1) (w6.heap.size) (w7.heap.size) _ (PairR.here O7 (by repeat' (first | (with_reducible exact Below.refl _ _) | (with_reducible refine Below.alloc ?_ ?_ _) | (with_reducible refine Below.setCell ?_ ?_ _) | (with_reducible refine below_drewN ?_ _) | (with_reducible refine Below.drew ?_) | (with_reducible refine below_step (by assumption) ?_ ?_) | omega | (simp; done) | (simp; omega)))) (by omega) (by omega) (by omega) (by omega)).mono ?_)
    rintro e w15 ⟨rfl, O15, fr15, b15⟩
    have O6x15 := PairR.across O6 (by repeat' (first | (with_reducible exact Below.refl _ _) | (with_reducible refine Below.alloc ?_ ?_ _) | (with_reducible refine Below.setCell ?_ ?_ _) | (with_reducible refine below_drewN ?_ _) | (with_reducible refine Below.drew ?_) | (with_reducible refine below_step (by assumption) ?_ ?_) | omega | (simp; done) | (simp; omega))) fr15 (by omega)
    clear O6
    have O8x15 := PairR.across O8 (by repeat' (first | (with_reducible exact Below.refl _ _) | (with_reducible refine Below.alloc ?_ ?_ _) | (with_reducible refine Below.setCell ?_ ?_ _) | (with_reducible refine below_drewN ?_ _) | (with_reducible refine Below.drew ?_) | (with_reducible refine below_step (by assumption) ?_ ?_) | omega | (simp; done) | (simp; omega))) fr15 (by omega)
    clear O8
    have O9x15 := PairR.across O9 (by repeat' (first | (with_reducible exact Below.refl _ _) | (with_reducible refine Below.alloc ?_ ?_ _) | (with_reducible refine Below.setCell ?_ ?_ _) | (with_reducible refine below_drewN ?_ _) | (with_reducible refine Below.drew ?_) | (with_reducible refine below_step (by assumption) ?_ ?_) | omega | (simp; done) | (simp; omega))) fr15 (by omega)
    clear O9
    have z15 := b15.size
    (try simp at z15)
    have y15_0 : w.heap.size < w15.heap.size := by omega
    have y15_1 : w.heap.size + 1 < w15.heap.size := by omega
    have y15_2 : g6 < w15.heap.size := by omega
    have y15_3 : w7.heap.size < w15.heap.size := by omega
    have y15_4 : w8.heap.size < w15.heap.size := by omega
    have y15_5 : w9.heap.size < w15.heap.size := by omega
    have k15_0_0 : w15.cell? ⟨w.heap.size, 0, none⟩ = some (.bool s0) := by rw [fr15.cell (by first | omega | (simp; done) | (simp; omega)) (by omega)]; simp [go_sem, *]
    have k15_0_1 : w15.cell? ⟨w.heap.size, 1, none⟩ = some (.slice A0 xs.length c0) := by rw [fr15.cell (by first | omega | (simp; done) | (simp; omega)) (by omega)]; simp [go_sem, *]
    have k15_0_2 : w15.cell? ⟨w.heap.size, 2, none⟩ = some (.slice B0 ys.length d0) := by rw [fr15.cell (by first | omega | (simp; done) | (simp; omega)) (by omega)]; simp [go_sem, *]
    have k15_1_0 : w15.cell? ⟨w.heap.size + 1, 0, none⟩ = some (.bool s1) := by rw [fr15.cell (by first | omega | (simp; done) | (simp; omega)) (by omega)]; simp [go_sem, *]
    have k15_1_1 : w15.cell? ⟨w.heap.size + 1, 1, none⟩ = some (.slice A1 us.length c1) := by rw [fr15.cell (by first | omega | (simp; done) | (simp; omega)) (by omega)]; simp [go_sem, *]
    have k15_1_2 : w15.cell? ⟨w.heap.size + 1, 2, none⟩ = some (.slice B1 vs.length d1) := by rw [fr15.cell (by first | omega | (simp; done) | (simp; omega)) (by omega)]; simp [go_sem, *]
    have k15_2_0 : w15.cell? ⟨g6, 0, none⟩ = some (.bool rs0) := by rw [fr15.cell (by first | omega | (simp; done) | (simp; omega)) (by omega)]; simp [go_sem, *]
    have k15_2_1 : w15.cell? ⟨g6, 1, none⟩ = some (.slice A6 n6 c6) := by rw [fr15.cell (by first | omega | (simp; done) | (simp; omega)) (by omega)]; simp [go_sem, *]
    have k15_2_2 : w15.cell? ⟨g6, 2, none⟩ = some (.slice B6 m6 d6) := by rw [fr15.cell (by first | omega | (simp; done) | (simp; omega)) (by omega)]; simp [go_sem, *]
    have k15_3_0 : w15.cell? ⟨w7.heap.size, 0, none⟩ = some (.bool s0) := by rw [fr15.cell (by first | omega | (simp; done) | (simp; omega)) (by omega)]; simp [go_sem, *]
    have k15_3_1 : w15.cell? ⟨w7.heap.size, 1, none⟩ = some (.slice A7 n7 c7) := by rw [fr15.cell (by first | omega | (simp; done) | (simp; omega)) (by omega)]; simp [go_sem, *]
    have k15_3_2 : w15.cell? ⟨w7.heap.size, 2, none⟩ = some (.slice B7 m7 d7) := by rw [fr15.cell (by first | omega | (simp; done) | (simp; omega)) (by omega)]; simp [go_sem, *]
    have k15_4_0 : w15.cell? ⟨w8.heap.size, 0, none⟩ = some (.bool s1) := by rw [fr15.cell (by first | omega | (simp; done) | (simp; omega)) (by omega)]; simp [go_sem, *]
    have k15_4_1 : w15.cell? ⟨w8.heap.size, 1, none⟩ = some (.slice A8 n8 c8) := by rw [fr15.cell (by first | omega | (simp; done) | (simp; omega)) (by omega)]; simp [go_sem, *]
    have k15_4_2 : w15.cell? ⟨w8.heap.size, 2, none⟩ = some (.slice B8 m8 d8) := by rw [fr15.cell (by first | omega | (simp; done) | (simp; omega)) (by omega)]; simp [go_sem, *]
    have k15_5_0 : w15.cell? ⟨w9.heap.size, 0, none⟩ = some (.bool rs0) := by rw [fr15.cell (by first | omega | (simp; done) | (simp; omega)) (by omega)]; simp [go_sem, *]
    have k15_5_1 : w15.cell? ⟨w9.heap.size, 1, none⟩ = some (.slice A9 n9 c9) := by rw [fr15.cell (by first | omega | (simp; done) | (simp; omega)) (by omega)]; simp [go_sem, *]
    have k15_5_2 : w15.cell? ⟨w9.heap.size, 2, none⟩ = some (.slice B9 m9 d9) := by rw [fr15.cell (by first | omega | (simp; done) | (simp; omega)) (by omega)]; simp [go_sem, *]
    clear k14_0_0 k14_0_1 k14_0_2 k14_1_0 k14_1_1 k14_1_2 k14_2_0 k14_2_1 k14_2_2 k14_3_0 k14_3_1 k14_3_2 k14_4_0 k14_4_1 k14_4_2 k14_5_0 k14_5_1 k14_5_2 y14_0 y14_1 y14_2 y14_3 y14_4 y14_5
    go_wp2_with fail
    (with_reducible refine (markRat s1 _ _ _ _ _ _ us vs ((1 + xs.length + ys.length)) (w7.heap.size + 1) (w8.heap.size) _ (PairR.here O8x15 (by repeat' (first | (with_reducible exact Below.refl _ _) | (with_reducible refine Below.alloc ?_ ?_ _) | (with_reducible refine Below.setCell ?_ ?_ _) | (with_reducible refine below_drewN ?_ _) | (with_reducible refine Below.drew ?_) | (with_reducible refine below_step (by assumption) ?_ ?_) | omega | (simp; done) | (simp; omega)))) (by omega) (by omega) (by omega) (by omega)).mono ?_)
    rintro e w16 ⟨rfl, O16, fr16, b16⟩
    have O6x15x16 := PairR.across O6x15 (by repeat' (first | (with_reducible exact Below.refl _ _) | (with_reducible refine Below.alloc ?_ ?_ _) | (with_reducible refine Below.setCell ?_ ?_ _) | (with_reducible refine below_drewN ?_ _) | (with_reducible refine Below.drew ?_) | (with_reducible refine below_step (by assumption) ?_ ?_) | omega | (simp; done) | (simp; omega))) fr16 (by omega)
    clear O6x15
    have O9x15x16 := PairR.across O9x15 (by repeat' (first | (with_reducible exact Below.refl _ _) | (with_reducible refine Below.alloc ?_ ?_ _) | (with_reducible refine Below.setCell ?_ ?_ _) | (with_reducible refine below_drewN ?_ _) | (with_reducible refine Below.drew ?_) | (with_reducible refine below_step (by assumption) ?_ ?_) | omega | (simp; done) | (simp; omega))) fr16 (by omega)
    clear O9x15
    have z16 := b16.size
    (try simp at z16)
    have y16_0 : w.heap.size < w16.heap.size := by omega
    have y16_1 : w.heap.size + 1 < w16.heap.size := by omega
    have y16_2 : g6 < w16.heap.size := by omega
    have y16_3 : w7.heap.size < w16.heap.size := by omega
    have y16_4 : w8.heap.size < w16.heap.size := by omega
    have y16_5 : w9.heap.size < w16.heap.size := by omega
    have k16_0_0 : w16.cell? ⟨w.heap.size, 0, none⟩ = some (.bool s0) := by rw [fr16.cell (by first | omega | (simp; done) | (simp; omega)) (by omega)]; simp [go_sem, *]
    have k16_0_1 : w16.cell? ⟨w.heap.size, 1, none⟩ = some (.slice A0 xs.length c0) := by rw [fr16.cell (by first | omega | (simp; done) | (simp; omega)) (by omega)]; simp [go_sem, *]
    have k16_0_2 : w16.cell? ⟨w.heap.size, 2, none⟩ = some (.slice B0 ys.length d0) := by rw [fr16.cell (by first | omega | (simp; done) | (simp; omega)) (by omega)]; simp [go_sem, *]
    have k16_1_0 : w16.cell? ⟨w.heap.size + 1, 0, none⟩ = some (.bool s1) := by rw [fr16.cell (by first | omega | (simp; done) | (simp; omega)) (by omega)]; simp [go_sem, *]
    have k16_1_1 : w16.cell? ⟨w.heap.size + 1, 1, none⟩ = some (.slice A1 us.length c1) := by rw [fr16.cell (by first | omega | (simp; done) | (simp; omega)) (by omega)]; simp [go_sem, *]
    have k16_1_2 : w16.cell? ⟨w.heap.size + 1, 2, none⟩ = some (.slice B1 vs.length d1) := by rw [fr16.cell (by first | omega | (simp; done) | (simp; omega)) (by omega)]; simp [go_sem, *]
    have k16_2_0 : w16.cell? ⟨g6, 0, none⟩ = some (.bool rs0) := by rw [fr16.cell (by first | omega | (simp; done) | (simp; omega)) (by omega)]; simp [go_sem, *]
    have k16_2_1 : w16.cell? ⟨g6, 1, none⟩ = some (.slice A6 n6 c6) := by rw [fr16.cell (by first | omega | (simp; done) | (simp; omega)) (by omega)]; simp [go_sem, *]
    have k16_2_2 : w16.cell? ⟨g6, 2, none⟩ = some (.slice B6 m6 d6) := by rw [fr16.cell (by first | omega | (simp; done) | (simp; omega)) (by omega)]; simp [go_sem, *]
    have k16_3_0 : w16.cell? ⟨w7.heap.size, 0, none⟩ = some (.bool s0) := by rw [fr16.cell (by first | omega | (simp; done) | (simp; omega)) (by omega)]; simp [go_sem, *]
    have k16_3_1 : w16.cell? ⟨w7.heap.size, 1, none⟩ = some (.slice A7 n7 c7) := by rw [fr16.cell (by first | omega | (simp; done) | (simp; omega)) (by omega)]; simp [go_sem, *]
    have k16_3_2 : w16.cell? ⟨w7.heap.size, 2, none⟩ = some (.slice B7 m7 d7) := by rw [fr16.cell (by first | omega | (simp; done) | (simp; omega)) (by omega)]; simp [go_sem, *]
    have k16_4_0 : w16.cell? ⟨w8.heap.size, 0, none⟩ = some (.bool s1) := by rw [fr16.cell (by first | omega | (simp; done) | (simp; omega)) (by omega)]; simp [go_sem, *]
    have k16_4_1 : w16.cell? ⟨w8.heap.size, 1, none⟩ = some (.slice A8 n8 c8) := by rw [fr16.cell (by first | omega | (simp; done) | (simp; omega)) (by omega)]; simp [go_sem, *]
    have k16_4_2 : w16.cell? ⟨w8.heap.size, 2, none⟩ = some (.slice B8 m8 d8) := by rw [fr16.cell (by first | omega | (simp; done) | (simp; omega)) (by omega)]; simp [go_sem, *]
    have k16_5_0 : w16.cell? ⟨w9.heap.size, 0, none⟩ = some (.bool rs0) := by rw [fr16.cell (by first | omega | (simp; done) | (simp; omega)) (by omega)]; simp [go_sem, *]
    have k16_5_1 : w16.cell? ⟨w9.heap.size, 1, none⟩ = some (.slice A9 n9 c9) := by rw [fr16.cell (by first | omega | (simp; done) | (simp; omega)) (by omega)]; simp [go_sem, *]
    have k16_5_2 : w16.cell? ⟨w9.heap.size, 2, none⟩ = some (.slice B9 m9 d9) := by rw [fr16.cell (by first | omega | (simp; done) | (simp; omega)) (by omega)]; simp [go_sem, *]
    clear k15_0_0 k15_0_1 k15_0_2 k15_1_0 k15_1_1 k15_1_2 k15_2_0 k15_2_1 k15_2_2 k15_3_0 k15_3_1 k15_3_2 k15_4_0 k15_4_1 k15_4_2 k15_5_0 k15_5_1 k15_5_2 y15_0 y15_1 y15_2 y15_3 y15_4 y15_5
    go_wp2_with fail
    (with_reducible refine (eqRat rs0 _ _ _ _ _ _ _ _ _ _ _ _ rs1 rs2 _ (PairR.here O9x15x16 (by repeat' (first | (with_reducible exact Below.refl _ _) | (with_reducible refine Below.alloc ?_ ?_ _) | (with_reducible refine Below.setCell ?_ ?_ _) | (with_reducible refine below_drewN ?_ _) | (with_reducible refine Below.drew ?_) | (with_reducible refine below_step (by assumption) ?_ ?_) | omega | (simp; done) | (simp; omega)))).sl1 (PairR.here O9x15x16 (by repeat' (first | (with_reducible exact Below.refl _ _) | (with_reducible refine Below.alloc ?_ ?_ _) | (with_reducible refine Below.setCell ?_ ?_ _) | (with_reducible refine below_drewN ?_ _) | (with_reducible refine Below.drew ?_) | (with_reducible refine below_step (by assumption) ?_ ?_) | omega | (simp; done) | (simp; omega)))).sl2 (PairR.here O6x15x16 (by repeat' (first | (with_reducible exact Below.refl _ _) | (with_reducible refine Below.alloc ?_ ?_ _) | (with_reducible refine Below.setCell ?_ ?_ _) | (with_reducible refine below_drewN ?_ _) | (with_reducible refine Below.drew ?_) | (with_reducible refine below_step (by assumption) ?_ ?_) | omega | (simp; done) | (simp; omega)))).sl1 (PairR.here O6x15x16 (by repeat' (first | (with_reducible exact Below.refl _ _) | (with_reducible refine Below.alloc ?_ ?_ _) | (with_reducible refine Below.setCell ?_ ?_ _) | (with_reducible refine below_drewN ?_ _) | (with_reducible refine Below.drew ?_) | (with_reducible refine below_step (by assumption) ?_ ?_) | omega | (simp; done) | (simp; omega)))).sl2).mono ?_)
    rintro e w17 ⟨rfl, b17⟩
    have z17 := b17.size
    (try simp at z17)
    have y17_0 : w.heap.size < w17.heap.size := by omega
    have y17_1 : w.heap.size + 1 < w17.heap.size := by omega
    have y17_2 : g6 < w17.heap.size := by omega
    have y17_3 : w7.heap.size < w17.heap.size := by omega
    have y17_4 : w8.heap.size < w17.heap.size := by omega
    have y17_5 : w9.heap.size < w17.heap.size := by omega
    have k17_0_0 : w17.cell? ⟨w.heap.size, 0, none⟩ = some (.bool s0) := by rw [(bxcell b17).1 _ _ (by first | omega | (simp; done) | (simp; omega))]; simp [go_sem, *]
    have k17_0_1 : w17.cell? ⟨w.heap.size, 1, none⟩ = some (.slice A0 xs.length c0) := by rw [(bxcell b17).1 _ _ (by first | omega | (simp; done) | (simp; omega))]; simp [go_sem, *]
    have k17_0_2 : w17.cell? ⟨w.heap.size, 2, none⟩ = some (.slice B0 ys.length d0) := by rw [(bxcell b17).1 _ _ (by first | omega | (simp; done) | (simp; omega))]; simp [go_sem, *]
    have k17_1_0 : w17.cell? ⟨w.heap.size + 1, 0, none⟩ = some (.bool s1) := by rw [(bxcell b17).1 _ _ (by first | omega | (simp; done) | (simp; omega))]; simp [go_sem, *]
    have k17_1_1 : w17.cell? ⟨w.heap.size + 1, 1, none⟩ = some (.slice A1 us.length c1) := by rw [(bxcell b17).1 _ _ (by first | omega | (simp; done) | (simp; omega))]; simp [go_sem, *]
    have k17_1_2 : w17.cell? ⟨w.heap.size + 1, 2, none⟩ = some (.slice B1 vs.length d1) := by rw [(bxcell b17).1 _ _ (by first | omega | (simp; done) | (simp; omega))]; simp [go_sem, *]
    have k17_2_0 : w17.cell? ⟨g6, 0, none⟩ = some (.bool rs0) := by rw [(bxcell b17).1 _ _ (by first | omega | (simp; done) | (simp; omega))]; simp [go_sem, *]
    have k17_2_1 : w17.cell? ⟨g6, 1, none⟩ = some (.slice A6 n6 c6) := by rw [(bxcell b17).1 _ _ (by first | omega | (simp; done) | (simp; omega))]; simp [go_sem, *]
    have k17_2_2 : w17.cell? ⟨g6, 2, none⟩ = some (.slice B6 m6 d6) := by rw [(bxcell b17).1 _ _ (by first | omega | (simp; done) | (simp; omega))]; simp [go_sem, *]
    have k17_3_0 : w17.cell? ⟨w7.heap.size, 0, none⟩ = some (.bool s0) := by rw [(bxcell b17).1 _ _ (by first | omega | (simp; done) | (simp; omega))]; simp [go_sem, *]
    have k17_3_1 : w17.cell? ⟨w7.heap.size, 1, none⟩ = some (.slice A7 n7 c7) := by rw [(bxcell b17).1 _ _ (by first | omega | (simp; done) | (simp; omega))]; simp [go_sem, *]
    have k17_3_2 : w17.cell? ⟨w7.heap.size, 2, none⟩ = some (.slice B7 m7 d7) := by rw [(bxcell b17).1 _ _ (by first | omega | (simp; done) | (simp; omega))]; simp [go_sem, *]
    have k17_4_0 : w17.cell? ⟨w8.heap.size, 0, none⟩ = some (.bool s1) := by rw [(bxcell b17).1 _ _ (by first | omega | (simp; done) | (simp; omega))]; simp [go_sem, *]
    have k17_4_1 : w17.cell? ⟨w8.heap.size, 1, none⟩ = some (.slice A8 n8 c8) := by rw [(bxcell b17).1 _ _ (by first | omega | (simp; done) | (simp; omega))]; simp [go_sem, *]
    have k17_4_2 : w17.cell? ⟨w8.heap.size, 2, none⟩ = some (.slice B8 m8 d8) := by rw [(bxcell b17).1 _ _ (by first | omega | (simp; done) | (simp; omega))]; simp [go_sem, *]
    have k17_5_0 : w17.cell? ⟨w9.heap.size, 0, none⟩ = some (.bool rs0) := by rw [(bxcell b17).1 _ _ (by first | omega | (simp; done) | (simp; omega))]; simp [go_sem, *]
    have k17_5_1 : w17.cell? ⟨w9.heap.size, 1, none⟩ = some (.slice A9 n9 c9) := by rw [(bxcell b17).1 _ _ (by first | omega | (simp; done) | (simp; omega))]; simp [go_sem, *]
    have k17_5_2 : w17.cell? ⟨w9.heap.size, 2, none⟩ = some (.slice B9 m9 d9) := by rw [(bxcell b17).1 _ _ (by first | omega | (simp; done) | (simp; omega))]; simp [go_sem, *]
    clear k16_0_0 k16_0_1 k16_0_2 k16_1_0 k16_1_1 k16_1_2 k16_2_0 k16_2_1 k16_2_2 k16_3_0 k16_3_1 k16_3_2 k16_4_0 k16_4_1 k16_4_2 k16_5_0 k16_5_1 k16_5_2 y16_0 y16_1 y16_2 y16_3 y16_4 y16_5
    go_wp2_with fail
    (with_reducible refine (markRat rs0 _ _ _ _ _ _ rs1 rs2 (1) (w8.heap.size + 1) (w9.heap.size) _ (PairR.here O9x15x16 (by repeat' (first | (with_reducible exact Below.refl _ _) | (with_reducible refine Below.alloc ?_ ?_ _) | (with_reducible refine Below.setCell ?_ ?_ _) | (with_reducible refine below_drewN ?_ _) | (with_reducible refine Below.drew ?_) | (with_reducible refine below_step (by assumption) ?_ ?_) | omega | (simp; done) | (simp; omega)))) (by omega) (by omega) (by omega) (by omega)).mono ?_)
    rintro e w18 ⟨rfl, O18, fr18, b18⟩
    have O6x15x16x18 := PairR.across O6x15x16 (by repeat' (first | (with_reducible exact Below.refl _ _) | (with_reducible refine Below.alloc ?_ ?_ _) | (with_reducible refine Below.setCell ?_ ?_ _) | (with_reducible refine below_drewN ?_ _) | (with_reducible refine Below.drew ?_) | (with_reducible refine below_step (by assumption) ?_ ?_) | omega | (simp; done) | (simp; omega))) fr18 (by omega)
    clear O6x15x16
    have z18 := b18.size
    (try simp at z18)
    have y18_0 : w.heap.size < w18.heap.size := by omega
    have y18_1 : w.heap.size + 1 < w18.heap.size := by omega
    have y18_2 : g6 < w18.heap.size := by omega
    have y18_3 : w7.heap.size < w18.heap.size := by omega
    have y18_4 : w8.heap.size < w18.heap.size := by omega
    have y18_5 : w9.heap.size < w18.heap.size := by omega
    have k18_0_0 : w18.cell? ⟨w.heap.size, 0, none⟩ = some (.bool s0) := by rw [fr18.cell (by first | omega | (simp; done) | (simp; omega)) (by omega)]; simp [go_sem, *]
    have k18_0_1 : w18.cell? ⟨w.heap.size, 1, none⟩ = some (.slice A0 xs.length c0) := by rw [fr18.cell (by first | omega | (simp; done) | (simp; omega)) (by omega)]; simp [go_sem, *]
    have k18_0_2 : w18.cell? ⟨w.heap.size, 2, none⟩ = some (.slice B0 ys.length d0) := by rw [fr18.cell (by first | omega | (simp; done) | (simp; omega)) (by omega)]; simp [go_sem, *]
    have k18_1_0 : w18.cell? ⟨w.heap.size + 1, 0, none⟩ = some (.bool s1) := by rw [fr18.cell (by first | omega | (simp; done) | (simp; omega)) (by omega)]; simp [go_sem, *]
    have k18_1_1 : w18.cell? ⟨w.heap.size + 1, 1, none⟩ = some (.slice A1 us.length c1) := by rw [fr18.cell (by first | omega | (simp; done) | (simp; omega)) (by omega)]; simp [go_sem, *]
    have k18_1_2 : w18.cell? ⟨w.heap.size + 1, 2, none⟩ = some (.slice B1 vs.length d1) := by rw [fr18.cell (by first | omega | (simp; done) | (simp; omega)) (by omega)]; simp [go_sem, *]
    have k18_2_0 : w18.cell? ⟨g6, 0, none⟩ = some (.bool rs0) := by rw [fr18.cell (by first | omega | (simp; done) | (simp; omega)) (by omega)]; simp [go_sem, *]
    have k18_2_1 : w18.cell? ⟨g6, 1, none⟩ = some (.slice A6 n6 c6) := by rw [fr18.cell (by first | omega | (simp; done) | (simp; omega)) (by omega)]; simp [go_sem, *]
    have k18_2_2 : w18.cell? ⟨g6, 2, none⟩ = some (.slice B6 m6 d6) := by rw [fr18.cell (by first | omega | (simp; done) | (simp; omega)) (by omega)]; simp [go_sem, *]
    have k18_3_0 : w18.cell? ⟨w7.heap.size, 0, none⟩ = some (.bool s0) := by rw [fr18.cell (by first | omega | (simp; done) | (simp; omega)) (by omega)]; simp [go_sem, *]
    have k18_3_1 : w18.cell? ⟨w7.heap.size, 1, none⟩ = some (.slice A7 n7 c7) := by rw [fr18.cell (by first | omega | (simp; done) | (simp; omega)) (by omega)]; simp [go_sem, *]
    have k18_3_2 : w18.cell? ⟨w7.heap.size, 2, none⟩ = some (.slice B7 m7 d7) := by rw [fr18.cell (by first | omega | (simp; done) | (simp; omega)) (by omega)]; simp [go_sem, *]
    have k18_4_0 : w18.cell? ⟨w8.heap.size, 0, none⟩ = some (.bool s1) := by rw [fr18.cell (by first | omega | (simp; done) | (simp; omega)) (by omega)]; simp [go_sem, *]
    have k18_4_1 : w18.cell? ⟨w8.heap.size, 1, none⟩ = some (.slice A8 n8 c8) := by rw [fr18.cell (by first | omega | (simp; done) | (simp; omega)) (by omega)]; simp [go_sem, *]
    have k18_4_2 : w18.cell? ⟨w8.heap.size, 2, none⟩ = some (.slice B8 m8 d8) := by rw [fr18.cell (by first | omega | (simp; done) | (simp; omega)) (by omega)]; simp [go_sem, *]
    have k18_5_0 : w18.cell? ⟨w9.heap.size, 0, none⟩ = some (.bool rs0) := by rw [fr18.cell (by first | omega | (simp; done) | (simp; omega)) (by omega)]; simp [go_sem, *]
    have k18_5_1 : w18.cell? ⟨w9.heap.size, 1, none⟩ = some (.slice A9 n9 c9) := by rw [fr18.cell (by first | omega | (simp; done) | (simp; omega)) (by omega)]; simp [go_sem, *]
    have k18_5_2 : w18.cell? ⟨w9.heap.size, 2, none⟩ = some (.slice B9 m9 d9) := by rw [fr18.cell (by first | omega | (simp; done) | (simp; omega)) (by omega)]; simp [go_sem, *]
    clear k17_0_0 k17_0_1 k17_0_2 k17_1_0 k17_1_1 k17_1_2 k17_2_0 k17_2_1 k17_2_2 k17_3_0 k17_3_1 k17_3_2 k17_4_0 k17_4_1 k17_4_2 k17_5_0 k17_5_1 k17_5_2 y17_0 y17_1 y17_2 y17_3 y17_4 y17_5
    go_wp2_with fail
    (with_reducible refine (heldRat rs0 _ _ _ _ _ _ rs1.length rs2.length (1) _ (PairR.here O18 (by repeat' (first | (with_reducible exact Below.refl _ _) | (with_reducible refine Below.alloc ?_ ?_ _) | (with_reducible refine Below.setCell ?_ ?_ _) | (with_reducible refine below_drewN ?_ _) | (with_reducible refine Below.drew ?_) | (with_reducible refine below_step (by assumption) ?_ ?_) | omega | (simp; done) | (simp; omega)))).sl1 (PairR.here O18 (by repeat' (first | (with_reducible exact Below.refl _ _) | (with_reducible refine Below.alloc ?_ ?_ _) | (with_reducible refine Below.setCell ?_ ?_ _) | (with_reducible refine below_drewN ?_ _) | (with_reducible refine Below.drew ?_) | (with_reducible refine below_step (by assumption) ?_ ?_) | omega | (simp; done) | (simp; omega)))).sl2 (by omega) (by omega)).mono ?_)
    rintro e w19 ⟨rfl, b19⟩
    have z19 := b19.size
    (try simp at z19)
    have y19_0 : w.heap.size < w19.heap.size := by omega
    have y19_1 : w.heap.size + 1 < w19.heap.size := by omega
    have y19_2 : g6 < w19.heap.size := by omega
    have y19_3 : w7.heap.size < w19.heap.size := by omega
    have y19_4 : w8.heap.size < w19.heap.size := by omega
    have y19_5 : w9.heap.size < w19.heap.size := by omega
    have k19_0_0 : w19.cell? ⟨w.heap.size, 0, none⟩ = some (.bool s0) := by rw [(bxcell b19).1 _ _ (by first | omega | (simp; done) | (simp; omega))]; simp [go_sem, *]
    have k19_0_1 : w19.cell? ⟨w.heap.size, 1, none⟩ = some (.slice A0 xs.length c0) := by rw [(bxcell b19).1 _ _ (by first | omega | (simp; done) | (simp; omega))]; simp [go_sem, *]
    have k19_0_2 : w19.cell? ⟨w.heap.size, 2, none⟩ = some (.slice B0 ys.length d0) := by rw [(bxcell b19).1 _ _ (by first | omega | (simp; done) | (simp; omega))]; simp [go_sem, *]
    have k19_1_0 : w19.cell? ⟨w.heap.size + 1, 0, none⟩ = some (.bool s1) := by rw [(bxcell b19).1 _ _ (by first | omega | (simp; done) | (simp; omega))]; simp [go_sem, *]
    have k19_1_1 : w19.cell? ⟨w.heap.size + 1, 1, none⟩ = some (.slice A1 us.length c1) := by rw [(bxcell b19).1 _ _ (by first | omega | (simp; done) | (simp; omega))]; simp [go_sem, *]
    have k19_1_2 : w19.cell? ⟨w.heap.size + 1, 2, none⟩ = some (.slice B1 vs.length d1) := by rw [(bxcell b19).1 _ _ (by first | omega | (simp; done) | (simp; omega))]; simp [go_sem, *]
    have k19_2_0 : w19.cell? ⟨g6, 0, none⟩ = some (.bool rs0) := by rw [(bxcell b19).1 _ _ (by first | omega | (simp; done) | (simp; omega))]; simp [go_sem, *]
    have k19_2_1 : w19.cell? ⟨g6, 1, none⟩ = some (.slice A6 n6 c6) := by rw [(bxcell b19).1 _ _ (by first | omega | (simp; done) | (simp; omega))]; simp [go_sem, *]
    have k19_2_2 : w19.cell? ⟨g6, 2, none⟩ = some (.slice B6 m6 d6) := by rw [(bxcell b19).1 _ _ (by first | omega | (simp; done) | (simp; omega))]; simp [go_sem, *]
    have k19_3_0 : w19.cell? ⟨w7.heap.size, 0, none⟩ = some (.bool s0) := by rw [(bxcell b19).1 _ _ (by first | omega | (simp; done) | (simp; omega))]; simp [go_sem, *]
    have k19_3_1 : w19.cell? ⟨w7.heap.size, 1, none⟩ = some (.slice A7 n7 c7) := by rw [(bxcell b19).1 _ _ (by first | omega | (simp; done) | (simp; omega))]; simp [go_sem, *]
    have k19_3_2 : w19.cell? ⟨w7.heap.size, 2, none⟩ = some (.slice B7 m7 d7) := by rw [(bxcell b19).1 _ _ (by first | omega | (simp; done) | (simp; omega))]; simp [go_sem, *]
    have k19_4_0 : w19.cell? ⟨w8.heap.size, 0, none⟩ = some (.bool s1) := by rw [(bxcell b19).1 _ _ (by first | omega | (simp; done) | (simp; omega))]; simp [go_sem, *]
    have k19_4_1 : w19.cell? ⟨w8.heap.size, 1, none⟩ = some (.slice A8 n8 c8) := by rw [(bxcell b19).1 _ _ (by first | omega | (simp; done) | (simp; omega))]; simp [go_sem, *]
    have k19_4_2 : w19.cell? ⟨w8.heap.size, 2, none⟩ = some (.slice B8 m8 d8) := by rw [(bxcell b19).1 _ _ (by first | omega | (simp; done) | (simp; omega))]; simp [go_sem, *]
    have k19_5_0 : w19.cell? ⟨w9.heap.size, 0, none⟩ = some (.bool rs0) := by rw [(bxcell b19).1 _ _ (by first | omega | (simp; done) | (simp; omega))]; simp [go_sem, *]
    have k19_5_1 : w19.cell? ⟨w9.heap.size, 1, none⟩ = some (.slice A9 n9 c9) := by rw [(bxcell b19).1 _ _ (by first | omega | (simp; done) | (simp; omega))]; simp [go_sem, *]
    have k19_5_2 : w19.cell? ⟨w9.heap.size, 2, none⟩ = some (.slice B9 m9 d9) := by rw [(bxcell b19).1 _ _ (by first | omega | (simp; done) | (simp; omega))]; simp [go_sem, *]
    clear k18_0_0 k18_0_1 k18_0_2 k18_1_0 k18_1_1 k18_1_2 k18_2_0 k18_2_1 k18_2_2 k18_3_0 k18_3_1 k18_3_2 k18_4_0 k18_4_1 k18_4_2 k18_5_0 k18_5_1 k18_5_2 y18_0 y18_1 y18_2 y18_3 y18_4 y18_5
    go_upto_region 31 with fail
    go_cut [13] (fun s wx => BoxQ w19 3 rs0 rs1 rs2 s wx)
    case first =>
      have yb19_0 := Nat.ne_of_lt y19_0
      have yc19_0 := (Nat.ne_of_lt y19_0).symm
      have yb19_1 := Nat.ne_of_lt y19_1
      have yc19_1 := (Nat.ne_of_lt y19_1).symm
      have yb19_2 := Nat.ne_of_lt y19_2
      have yc19_2 := (Nat.ne_of_lt y19_2).symm
      have yb19_3 := Nat.ne_of_lt y19_3
      have yc19_3 := (Nat.ne_of_lt y19_3).symm
      have yb19_4 := Nat.ne_of_lt y19_4
      have yc19_4 := (Nat.ne_of_lt y19_4).symm
      have yb19_5 := Nat.ne_of_lt y19_5
      have yc19_5 := (Nat.ne_of_lt y19_5).symm
      go_region_held3 (fun w' => w'.cell? ⟨w.heap.size, 0, none⟩ = some (.bool s0) ∧ w'.cell? ⟨w.heap.size, 1, none⟩ = some (.slice A0 xs.length c0) ∧ w'.cell? ⟨w.heap.size, 2, none⟩ = some (.slice B0 ys.length d0) ∧ w'.cell? ⟨w.heap.size + 1, 0, none⟩ = some (.bool s1) ∧ w'.cell? ⟨w.heap.size + 1, 1, none⟩ = some (.slice A1 us.length c1) ∧ w'.cell? ⟨w.heap.size + 1, 2, none⟩ = some (.slice B1 vs.length d1)) (go_keep)
        (first
          | (go_at_call 31; (with_reducible refine (laws_toRat s0 A0 B0 _ c0 _ d0 xs ys _ (S0.out.below (by repeat' (first | (with_reducible exact Below.refl _ _) | (with_reducible refine Below.alloc ?_ ?_ _) | (with_reducible refine Below.setCell ?_ ?_ _) | (with_reducible refine below_drewN ?_ _) | (with_reducible refine Below.drew ?_) | (with_reducible refine below_step (by assumption) ?_ ?_) | omega | (simp; done) | (simp; omega)))) (R0.out.below (by repeat' (first | (with_reducible exact Below.refl _ _) | (with_reducible refine Below.alloc ?_ ?_ _) | (with_reducible refine Below.setCell ?_ ?_ _) | (with_reducible refine below_drewN ?_ _) | (with_reducible refine Below.drew ?_) | (with_reducible refine below_step (by assumption) ?_ ?_) | omega | (simp; done) | (simp; omega)))) (by omega) (by omega)).mono ?_); rintro e w20 ⟨A20, n20, c20, B20, m20, d20, rfl, o20, b20⟩; obtain ⟨hc20, hf20⟩ := bxcell b20; have q20_0 := fun o => hc20 (w.heap.size) o (by first | omega | (simp; done) | (simp; omega)); have q20_1 := fun o => hc20 (w.heap.size + 1) o (by first | omega | (simp; done) | (simp; omega)); have q20_2 := fun o => hc20 (g6) o (by first | omega | (simp; done) | (simp; omega)); have q20_3 := fun o => hc20 (w7.heap.size) o (by first | omega | (simp; done) | (simp; omega)); have q20_4 := fun o => hc20 (w8.heap.size) o (by first | omega | (simp; done) | (simp; omega)); have q20_5 := fun o => hc20 (w9.heap.size) o (by first | omega | (simp; done) | (simp; omega)); have z20 := b20.size; (try simp at z20); have ya20_0 : w.heap.size < w20.heap.size := (by omega); have yb20_0 := Nat.ne_of_lt ya20_0; have yc20_0 := (Nat.ne_of_lt ya20_0).symm; have ya20_1 : w.heap.size + 1 < w20.heap.size := (by omega); have yb20_1 := Nat.ne_of_lt ya20_1; have yc20_1 := (Nat.ne_of_lt ya20_1).symm; have ya20_2 : g6 < w20.heap.size := (by omega); have yb20_2 := Nat.ne_of_lt ya20_2; have yc20_2 := (Nat.ne_of_lt ya20_2).symm; have ya20_3 : w7.heap.size < w20.heap.size := (by omega); have yb20_3 := Nat.ne_of_lt ya20_3; have yc20_3 := (Nat.ne_of_lt ya20_3).symm; have ya20_4 : w8.heap.size < w20.heap.size := (by omega); have yb20_4 := Nat.ne_of_lt ya20_4; have yc20_4 := (Nat.ne_of_lt ya20_4).symm; have ya20_5 : w9.heap.size < w20.heap.size := (by omega); have yb20_5 := Nat.ne_of_lt ya20_5; have yc20_5 := (Nat.ne_of_lt ya20_5).symm; (try have v20_w19 : w19.heap.size < w20.heap.size := (by omega)); (try have u20_w19 := fun o => hc20 (w19.heap.size) o (by first | omega | (simp; done) | (simp; omega))); (try have x20_w19 := fun o => hf20 (w19.heap.size) o (by first | omega | (simp; done) | (simp; omega))); have O20 := PairR.wide o20 (lo' := w19.heap.size) (by first | omega | (simp; done) | (simp; omega)) (Nat.le_refl _); clear o20)
          | (go_at_call 31; (with_reducible refine (laws_toRat s1 A1 B1 _ c1 _ d1 us vs _ (S1.out.below (by repeat' (first | (with_reducible exact Below.refl _ _) | (with_reducible refine Below.alloc ?_ ?_ _) | (with_reducible refine Below.setCell ?_ ?_ _) | (with_reducible refine below_drewN ?_ _) | (with_reducible refine Below.drew ?_) | (with_reducible refine below_step (by assumption) ?_ ?_) | omega | (simp; done) | (simp; omega)))) (R1.out.below (by repeat' (first | (with_reducible exact Below.refl _ _) | (with_reducible refine Below.alloc ?_ ?_ _) | (with_reducible refine Below.setCell ?_ ?_ _) | (with_reducible refine below_drewN ?_ _) | (with_reducible refine Below.drew ?_) | (with_reducible refine below_step (by assumption) ?_ ?_) | omega | (simp; done) | (simp; omega)))) (by omega) (by omega)).mono ?_); rintro e w21 ⟨A21, n21, c21, B21, m21, d21, rfl, o21, b21⟩; obtain ⟨hc21, hf21⟩ := bxcell b21; have q21_0 := fun o => hc21 (w.heap.size) o (by first | omega | (simp; done) | (simp; omega)); have q21_1 := fun o => hc21 (w.heap.size + 1) o (by first | omega | (simp; done) | (simp; omega)); have q21_2 := fun o => hc21 (g6) o (by first | omega | (simp; done) | (simp; omega)); have q21_3 := fun o => hc21 (w7.heap.size) o (by first | omega | (simp; done) | (simp; omega)); have q21_4 := fun o => hc21 (w8.heap.size) o (by first | omega | (simp; done) | (simp; omega)); have q21_5 := fun o => hc21 (w9.heap.size) o (by first | omega | (simp; done) | (simp; omega)); have z21 := b21.size; (try simp at z21); have ya21_0 : w.heap.size < w21.heap.size := (by omega); have yb21_0 := Nat.ne_of_lt ya21_0; have yc21_0 := (Nat.ne_of_lt ya21_0).symm; have ya21_1 : w.heap.size + 1 < w21.heap.size := (by omega); have yb21_1 := Nat.ne_of_lt ya21_1; have yc21_1 := (Nat.ne_of_lt ya21_1).symm; have ya21_2 : g6 < w21.heap.size := (by omega); have yb21_2 := Nat.ne_of_lt ya21_2; have yc21_2 := (Nat.ne_of_lt ya21_2).symm; have ya21_3 : w7.heap.size < w21.heap.size := (by omega); have yb21_3 := Nat.ne_of_lt ya21_3; have yc21_3 := (Nat.ne_of_lt ya21_3).symm; have ya21_4 : w8.heap.size < w21.heap.size := (by omega); have yb21_4 := Nat.ne_of_lt ya21_4; have yc21_4 := (Nat.ne_of_lt ya21_4).symm; have ya21_5 : w9.heap.size < w21.heap.size := (by omega); have yb21_5 := Nat.ne_of_lt ya21_5; have yc21_5 := (Nat.ne_of_lt ya21_5).symm; (try have v21_w19 : w19.heap.size < w21.heap.size := (by omega)); (try have u21_w19 := fun o => hc21 (w19.heap.size) o (by first | omega | (simp; done) | (simp; omega))); (try have x21_w19 := fun o => hf21 (w19.heap.size) o (by first | omega | (simp; done) | (simp; omega))); (try have v21_w20 : w20.heap.size < w21.heap.size := (by omega)); (try have u21_w20 := fun o => hc21 (w20.heap.size) o (by first | omega | (simp; done) | (simp; omega))); (try have x21_w20 := fun o => hf21 (w20.heap.size) o (by first | omega | (simp; done) | (simp; omega))); have O21 := PairR.wide o21 (lo' := w20.heap.size) (by first | omega | (simp; done) | (simp; omega)) (Nat.le_refl _); clear o21)
          | (go_at_call 41; (with_reducible refine (impl_RatMin s0 s1 _ _ _ _ _ _ _ _ _ _ _ _ xs ys us vs _ (PairR.here O20 (by repeat' (first | (with_reducible exact Below.refl _ _) | (with_reducible refine Below.alloc ?_ ?_ _) | (with_reducible refine Below.setCell ?_ ?_ _) | (with_reducible refine below_drewN ?_ _) | (with_reducible refine Below.drew ?_) | (with_reducible refine below_step (by assumption) ?_ ?_) | omega | (simp; done) | (simp; omega)))).sl1 (PairR.here O20 (by repeat' (first | (with_reducible exact Below.refl _ _) | (with_reducible refine Below.alloc ?_ ?_ _) | (with_reducible refine Below.setCell ?_ ?_ _) | (with_reducible refine below_drewN ?_ _) | (with_reducible refine Below.drew ?_) | (with_reducible refine below_step (by assumption) ?_ ?_) | omega | (simp; done) | (simp; omega)))).sl2 (PairR.here O21 (by repeat' (first | (with_reducible exact Below.refl _ _) | (with_reducible refine Below.alloc ?_ ?_ _) | (with_reducible refine Below.setCell ?_ ?_ _) | (with_reducible refine below_drewN ?_ _) | (with_reducible refine Below.drew ?_) | (with_reducible refine below_step (by assumption) ?_ ?_) | omega | (simp; done) | (simp; omega)))).sl1 (PairR.here O21 (by repeat' (first | (with_reducible exact Below.refl _ _) | (with_reducible refine Below.alloc ?_ ?_ _) | (with_reducible refine Below.setCell ?_ ?_ _) | (with_reducible refine below_drewN ?_ _) | (with_reducible refine Below.drew ?_) | (with_reducible refine below_step (by assumption) ?_ ?_) | omega | (simp; done) | (simp; omega)))).sl2).mono ?_); rintro e w22 ⟨A22, n22, c22, B22, m22, d22, rfl, o22, b22⟩; obtain ⟨hc22, hf22⟩ := bxcell b22; have q22_0 := fun o => hc22 (w.heap.size) o (by first | omega | (simp; done) | (simp; omega)); have q22_1 := fun o => hc22 (w.heap.size + 1) o (by first | omega | (simp; done) | (simp; omega)); have q22_2 := fun o => hc22 (g6) o (by first | omega | (simp; done) | (simp; omega)); have q22_3 := fun o => hc22 (w7.heap.size) o (by first | omega | (simp; done) | (simp; omega)); have q22_4 := fun o => hc22 (w8.heap.size) o (by first | omega | (simp; done) | (simp; omega)); have q22_5 := fun o => hc22 (w9.heap.size) o (by first | omega | (simp; done) | (simp; omega)); have z22 := b22.size; (try simp at z22); have ya22_0 : w.heap.size < w22.heap.size := (by omega); have yb22_0 := Nat.ne_of_lt ya22_0; have yc22_0 := (Nat.ne_of_lt ya22_0).symm; have ya22_1 : w.heap.size + 1 < w22.heap.size := (by omega); have yb22_1 := Nat.ne_of_lt ya22_1; have yc22_1 := (Nat.ne_of_lt ya22_1).symm; have ya22_2 : g6 < w22.heap.size := (by omega); have yb22_2 := Nat.ne_of_lt ya22_2; have yc22_2 := (Nat.ne_of_lt ya22_2).symm; have ya22_3 : w7.heap.size < w22.heap.size := (by omega); have yb22_3 := Nat.ne_of_lt ya22_3; have yc22_3 := (Nat.ne_of_lt ya22_3).symm; have ya22_4 : w8.heap.size < w22.heap.size := (by omega); have yb22_4 := Nat.ne_of_lt ya22_4; have yc22_4 := (Nat.ne_of_lt ya22_4).symm; have ya22_5 : w9.heap.size < w22.heap.size := (by omega); have yb22_5 := Nat.ne_of_lt ya22_5; have yc22_5 := (Nat.ne_of_lt ya22_5).symm; (try have v22_w19 : w19.heap.size < w22.heap.size := (by omega)); (try have u22_w19 := fun o => hc22 (w19.heap.size) o (by first | omega | (simp; done) | (simp; omega))); (try have x22_w19 := fun o => hf22 (w19.heap.size) o (by first | omega | (simp; done) | (simp; omega))); (try have v22_w20 : w20.heap.size < w22.heap.size := (by omega)); (try have u22_w20 := fun o => hc22 (w20.heap.size) o (by first | omega | (simp; done) | (simp; omega))); (try have x22_w20 := fun o => hf22 (w20.heap.size) o (by first | omega | (simp; done) | (simp; omega))); (try have v22_w21 : w21.heap.size < w22.heap.size := (by omega)); (try have u22_w21 := fun o => hc22 (w21.heap.size) o (by first | omega | (simp; done) | (simp; omega))); (try have x22_w21 := fun o => hf22 (w21.heap.size) o (by first | omega | (simp; done) | (simp; omega))); rw [← X0.out]; rw [← X1.out, ← X2.out] at o22; have O22 := o22; clear o22))
      all_goals (go_wp2_with fail; go_meet; first | exact BoxQ.new O22 (by first | omega | (simp; done) | (simp; omega)) (by first | omega | (simp; done) | (simp; omega)) (by first | omega | (simp; done) | (simp; omega)) (by repeat' (first | (with_reducible exact Below.refl _ _) | (with_reducible refine Below.alloc ?_ ?_ _) | (with_reducible refine Below.setCell ?_ ?_ _) | (with_reducible refine below_drewN ?_ _) | (with_reducible refine Below.drew ?_) | (with_reducible refine below_step (by assumption) ?_ ?_) | omega | (simp; done) | (simp; omega))) | exact BoxQ.set O22 (by first | (left; first | omega | (simp; done) | (simp; omega)) | (right; first | omega | (simp; done) | (simp; omega))) (by first | omega | (simp; done) | (simp; omega)) (by first | omega | (simp; done) | (simp; omega)) (by simp [go_sem, *]) (by simp [go_sem, *]) (by simp [go_sem, *]) (by first | omega | (simp; done) | (simp; omega)) (by first | omega | (simp; done) | (simp; omega)) (by first | omega | (simp; done) | (simp; omega)) (by repeat' (first | (with_reducible exact Below.refl _ _) | (with_reducible refine Below.alloc ?_ ?_ _) | (with_reducible refine Below.setCell ?_ ?_ _) | (with_reducible refine below_drewN ?_ _) | (with_reducible refine Below.drew ?_) | (with_reducible refine below_step (by assumption) ?_ ?_) | omega | (simp; done) | (simp; omega))))
    case rest =>
      rename World => w23
      obtain ⟨g23, A23, n23, c23, B23, m23, d23, lo23, hi23, rfl, ga23, gb23, gc23, gd23, ge23, gf23, O23, gh23, gi23, gj23, b23⟩ := hcut
      have z23 := b23.size
      (try simp at z23)
      have y23_0 : w.heap.size < w23.heap.size := by omega
      have y23_1 : w.heap.size + 1 < w23.heap.size := by omega
      have y23_2 : g6 < w23.heap.size := by omega
      have y23_3 : w7.heap.size < w23.heap.size := by omega
      have y23_4 : w8.heap.size < w23.heap.size := by omega
      have y23_5 : w9.heap.size < w23.heap.size := by omega
      have k23_0_0 : w23.cell? ⟨w.heap.size, 0, none⟩ = some (.bool s0) := by rw [(bxcell b23).1 _ _ (by first | omega | (simp; done) | (simp; omega))]; simp [go_sem, *]
      have k23_0_1 : w23.cell? ⟨w.heap.size, 1, none⟩ = some (.slice A0 xs.length c0) := by rw [(bxcell b23).1 _ _ (by first | omega | (simp; done) | (simp; omega))]; simp [go_sem, *]
      have k23_0_2 : w23.cell? ⟨w.heap.size, 2, none⟩ = some (.slice B0 ys.length d0) := by rw [(bxcell b23).1 _ _ (by first | omega | (simp; done) | (simp; omega))]; simp [go_sem, *]
      have k23_1_0 : w23.cell? ⟨w.heap.size + 1, 0, none⟩ = some (.bool s1) := by rw [(bxcell b23).1 _ _ (by first | omega | (simp; done) | (simp; omega))]; simp [go_sem, *]
      have k23_1_1 : w23.cell? ⟨w.heap.size + 1, 1, none⟩ = some (.slice A1 us.length c1) := by rw [(bxcell b23).1 _ _ (by first | omega | (simp; done) | (simp; omega))]; simp [go_sem, *]
      have k23_1_2 : w23.cell? ⟨w.heap.size + 1, 2, none⟩ = some (.slice B1 vs.length d1) := by rw [(bxcell b23).1 _ _ (by first | omega | (simp; done) | (simp; omega))]; simp [go_sem, *]
      have k23_2_0 : w23.cell? ⟨g6, 0, none⟩ = some (.bool rs0) := by rw [(bxcell b23).1 _ _ (by first | omega | (simp; done) | (simp; omega))]; simp [go_sem, *]
      have k23_2_1 : w23.cell? ⟨g6, 1, none⟩ = some (.slice A6 n6 c6) := by rw [(bxcell b23).1 _ _ (by first | omega | (simp; done) | (simp; omega))]; simp [go_sem, *]
      have k23_2_2 : w23.cell? ⟨g6, 2, none⟩ = some (.slice B6 m6 d6) := by rw [(bxcell b23).1 _ _ (by first | omega | (simp; done) | (simp; omega))]; simp [go_sem, *]
      have k23_3_0 : w23.cell? ⟨w7.heap.size, 0, none⟩ = some (.bool s0) := by rw [(bxcell b23).1 _ _ (by first | omega | (simp; done) | (simp; omega))]; simp [go_sem, *]
      have k23_3_1 : w23.cell? ⟨w7.heap.size, 1, none⟩ = some (.slice A7 n7 c7) := by rw [(bxcell b23).1 _ _ (by first | omega | (simp; done) | (simp; omega))]; simp [go_sem, *]
      have k23_3_2 : w23.cell? ⟨w7.heap.size, 2, none⟩ = some (.slice B7 m7 d7) := by rw [(bxcell b23).1 _ _ (by first | omega | (simp; done) | (simp; omega))]; simp [go_sem, *]
      have k23_4_0 : w23.cell? ⟨w8.heap.size, 0, none⟩ = some (.bool s1) := by rw [(bxcell b23).1 _ _ (by first | omega | (simp; done) | (simp; omega))]; simp [go_sem, *]
      have k23_4_1 : w23.cell? ⟨w8.heap.size, 1, none⟩ = some (.slice A8 n8 c8) := by rw [(bxcell b23).1 _ _ (by first | omega | (simp; done) | (simp; omega))]; simp [go_sem, *]
      have k23_4_2 : w23.cell? ⟨w8.heap.size, 2, none⟩ = some (.slice B8 m8 d8) := by rw [(bxcell b23).1 _ _ (by first | omega | (simp; done) | (simp; omega))]; simp [go_sem, *]
      have k23_5_0 : w23.cell? ⟨w9.heap.size, 0, none⟩ = some (.bool rs0) := by rw [(bxcell b23).1 _ _ (by first | omega | (simp; done) | (simp; omega))]; simp [go_sem, *]
      have k23_5_1 : w23.cell? ⟨w9.heap.size, 1, none⟩ = some (.slice A9 n9 c9) := by rw [(bxcell b23).1 _ _ (by first | omega | (simp; done) | (simp; omega))]; simp [go_sem, *]
      have k23_5_2 : w23.cell? ⟨w9.heap.size, 2, none⟩ = some (.slice B9 m9 d9) := by rw [(bxcell b23).1 _ _ (by first | omega | (simp; done) | (simp; omega))]; simp [go_sem, *]
      clear k19_0_0 k19_0_1 k19_0_2 k19_1_0 k19_1_1 k19_1_2 k19_2_0 k19_2_1 k19_2_2 k19_3_0 k19_3_1 k19_3_2 k19_4_0 k19_4_1 k19_4_2 k19_5_0 k19_5_1 k19_5_2 y19_0 y19_1 y19_2 y19_3 y19_4 y19_5
      go_wp2_with fail
      (with_reducible refine (eqRat rs0 _ _ _ _ _ _ _ _ _ _ _ _ rs1 rs2 _ (PairR.here O23 (by repeat' (first | (with_reducible exact Below.refl _ _) | (with_reducible refine Below.alloc ?_ ?_ _) | (with_reducible refine Below.setCell ?_ ?_ _) | (with_reducible refine below_drewN ?_ _) | (with_reducible refine Below.drew ?_) | (with_reducible refine below_step (by assumption) ?_ ?_) | omega | (simp; done) | (simp; omega)))).sl1 (PairR.here O23 (by repeat' (first | (with_reducible exact Below.refl _ _) | (with_reducible refine Below.alloc ?_ ?_ _) | (with_reducible refine Below.setCell ?_ ?_ _) | (with_reducible refine below_drewN ?_ _) | (with_reducible refine Below.drew ?_) | (with_reducible refine below_step (by assumption) ?_ ?_) | omega | (simp; done) | (simp; omega)))).sl2 (PairR.here O6x15x16x18 (by repeat' (first | (with_reducible exact Below.refl _ _) | (with_reducible refine Below.alloc ?_ ?_ _) | (with_reducible refine Below.setCell ?_ ?_ _) | (with_reducible refine below_drewN ?_ _) | (with_reducible refine Below.drew ?_) | (with_reducible refine below_step (by assumption) ?_ ?_) | omega | (simp; done) | (simp; omega)))).sl1 (PairR.here O6x15x16x18 (by repeat' (first | (with_reducible exact Below.refl _ _) | (with_reducible refine Below.alloc ?_ ?_ _) | (with_reducible refine Below.setCell ?_ ?_ _) | (with_reducible refine below_drewN ?_ _) | (with_reducible refine Below.drew ?_) | (with_reducible refine below_step (by assumption) ?_ ?_) | omega | (simp; done) | (simp; omega)))).sl2).mono ?_)
      rintro e w24 ⟨rfl, b24⟩
      have z24 := b24.size
      (try simp at z24)
      have y24_0 : w.heap.size < w24.heap.size := by omega
      have y24_1 : w.heap.size + 1 < w24.heap.size := by omega
      have y24_2 : g6 < w24.heap.size := by omega
      have y24_3 : w7.heap.size < w24.heap.size := by omega
      have y24_4 : w8.heap.size < w24.heap.size := by omega
      have y24_5 : w9.heap.size < w24.heap.size := by omega
      have y24_6 : g23 < w24.heap.size := by omega
      have k24_0_0 : w24.cell? ⟨w.heap.size, 0, none⟩ = some (.bool s0) := by rw [(bxcell b24).1 _ _ (by first | omega | (simp; done) | (simp; omega))]; simp [go_sem, *]
      have k24_0_1 : w24.cell? ⟨w.heap.size, 1, none⟩ = some (.slice A0 xs.length c0) := by rw [(bxcell b24).1 _ _ (by first | omega | (simp; done) | (simp; omega))]; simp [go_sem, *]
      have k24_0_2 : w24.cell? ⟨w.heap.size, 2, none⟩ = some (.slice B0 ys.length d0) := by rw [(bxcell b24).1 _ _ (by first | omega | (simp; done) | (simp; omega))]; simp [go_sem, *]
      have k24_1_0 : w24.cell? ⟨w.heap.size + 1, 0, none⟩ = some (.bool s1) := by rw [(bxcell b24).1 _ _ (by first | omega | (simp; done) | (simp; omega))]; simp [go_sem, *]
      have k24_1_1 : w24.cell? ⟨w.heap.size + 1, 1, none⟩ = some (.slice A1 us.length c1) := by rw [(bxcell b24).1 _ _ (by first | omega | (simp; done) | (simp; omega))]; simp [go_sem, *]
      have k24_1_2 : w24.cell? ⟨w.heap.size + 1, 2, none⟩ = some (.slice B1 vs.length d1) := by rw [(bxcell b24).1 _ _ (by first | omega | (simp; done) | (simp; omega))]; simp [go_sem, *]
      have k24_2_0 : w24.cell? ⟨g6, 0, none⟩ = some (.bool rs0) := by rw [(bxcell b24).1 _ _ (by first | omega | (simp; done) | (simp; omega))]; simp [go_sem, *]
      have k24_2_1 : w24.cell? ⟨g6, 1, none⟩ = some (.slice A6 n6 c6) := by rw [(bxcell b24).1 _ _ (by first | omega | (simp; done) | (simp; omega))]; simp [go_sem, *]
      have k24_2_2 : w24.cell? ⟨g6, 2, none⟩ = some (.slice B6 m6 d6) := by rw [(bxcell b24).1 _ _ (by first | omega | (simp; done) | (simp; omega))]; simp [go_sem, *]
      have k24_3_0 : w24.cell? ⟨w7.heap.size, 0, none⟩ = some (.bool s0) := by rw [(bxcell b24).1 _ _ (by first | omega | (simp; done) | (simp; omega))]; simp [go_sem, *]
      have k24_3_1 : w24.cell? ⟨w7.heap.size, 1, none⟩ = some (.slice A7 n7 c7) := by rw [(bxcell b24).1 _ _ (by first | omega | (simp; done) | (simp; omega))]; simp [go_sem, *]
      have k24_3_2 : w24.cell? ⟨w7.heap.size, 2, none⟩ = some (.slice B7 m7 d7) := by rw [(bxcell b24).1 _ _ (by first | omega | (simp; done) | (simp; omega))]; simp [go_sem, *]
      have k24_4_0 : w24.cell? ⟨w8.heap.size, 0, none⟩ = some (.bool s1) := by rw [(bxcell b24).1 _ _ (by first | omega | (simp; done) | (simp; omega))]; simp [go_sem, *]
      have k24_4_1 : w24.cell? ⟨w8.heap.size, 1, none⟩ = some (.slice A8 n8 c8) := by rw [(bxcell b24).1 _ _ (by first | omega | (simp; done) | (simp; omega))]; simp [go_sem, *]
      have k24_4_2 : w24.cell? ⟨w8.heap.size, 2, none⟩ = some (.slice B8 m8 d8) := by rw [(bxcell b24).1 _ _ (by first | omega | (simp; done) | (simp; omega))]; simp [go_sem, *]
      have k24_5_0 : w24.cell? ⟨w9.heap.size, 0, none⟩ = some (.bool rs0) := by rw [(bxcell b24).1 _ _ (by first | omega | (simp; done) | (simp; omega))]; simp [go_sem, *]
      have k24_5_1 : w24.cell? ⟨w9.heap.size, 1, none⟩ = some (.slice A9 n9 c9) := by rw [(bxcell b24).1 _ _ (by first | omega | (simp; done) | (simp; omega))]; simp [go_sem, *]
      have k24_5_2 : w24.cell? ⟨w9.heap.size, 2, none⟩ = some (.slice B9 m9 d9) := by rw [(bxcell b24).1 _ _ (by first | omega | (simp; done) | (simp; omega))]; simp [go_sem, *]
      have k24_6_0 : w24.cell? ⟨g23, 0, none⟩ = some (.bool rs0) := by rw [(bxcell b24).1 _ _ (by first | omega | (simp; done) | (simp; omega))]; simp [go_sem, *]
      have k24_6_1 : w24.cell? ⟨g23, 1, none⟩ = some (.slice A23 n23 c23) := by rw [(bxcell b24).1 _ _ (by first | omega | (simp; done) | (simp; omega))]; simp [go_sem, *]
      have k24_6_2 : w24.cell? ⟨g23, 2, none⟩ = some (.slice B23 m23 d23) := by rw [(bxcell b24).1 _ _ (by first | omega | (simp; done) | (simp; omega))]; simp [go_sem, *]
      clear k23_0_0 k23_0_1 k23_0_2 k23_1_0 k23_1_1 k23_1_2 k23_2_0 k23_2_1 k23_2_2 k23_3_0 k23_3_1 k23_3_2 k23_4_0 k23_4_1 k23_4_2 k23_5_0 k23_5_1 k23_5_2 gh23 gi23 gj23 y23_0 y23_1 y23_2 y23_3 y23_4 y23_5
      go_wp2_with fail
      (with_reducible refine (heldRat rs0 _ _ _ _ _ _ rs1.length rs2.length (1) _ (PairR.here O18 (by repeat' (first | (with_reducible exact Below.refl _ _) | (with_reducible refine Below.alloc ?_ ?_ _) | (with_reducible refine Below.setCell ?_ ?_ _) | (with_reducible refine below_drewN ?_ _) | (with_reducible refine Below.drew ?_) | (with_reducible refine below_step (by assumption) ?_ ?_) | omega | (simp; done) | (simp; omega)))).sl1 (PairR.here O18 (by repeat' (first | (with_reducible exact Below.refl _ _) | (with_reducible refine Below.alloc ?_ ?_ _) | (with_reducible refine Below.setCell ?_ ?_ _) | (with_reducible refine below_drewN ?_ _) | (with_reducible refine Below.drew ?_) | (with_reducible refine below_step (by assumption) ?_ ?_) | omega | (simp; done) | (simp; omega)))).sl2 (by omega) (by omega)).mono ?_)
      rintro e w25 ⟨rfl, b25⟩
      have z25 := b25.size
      (try simp at z25)
      have y25_0 : w.heap.size < w25.heap.size := by omega
      have y25_1 : w.heap.size + 1 < w25.heap.size := by omega
      have y25_2 : g6 < w25.heap.size := by omega
      have y25_3 : w7.heap.size < w25.heap.size := by omega
      have y25_4 : w8.heap.size < w25.heap.size := by omega
      have y25_5 : w9.heap.size < w25.heap.size := by omega
      have y25_6 : g23 < w25.heap.size := by omega
      have k25_0_0 : w25.cell? ⟨w.heap.size, 0, none⟩ = some (.bool s0) := by rw [(bxcell b25).1 _ _ (by first | omega | (simp; done) | (simp; omega))]; simp [go_sem, *]
      have k25_0_1 : w25.cell? ⟨w.heap.size, 1, none⟩ = some (.slice A0 xs.length c0) := by rw [(bxcell b25).1 _ _ (by first | omega | (simp; done) | (simp; omega))]; simp [go_sem, *]
      have k25_0_2 : w25.cell? ⟨w.heap.size, 2, none⟩ = some (.slice B0 ys.length d0) := by rw [(bxcell b25).1 _ _ (by first | omega | (simp; done) | (simp; omega))]; simp [go_sem, *]
      have k25_1_0 : w25.cell? ⟨w.heap.size + 1, 0, none⟩ = some (.bool s1) := by rw [(bxcell b25).1 _ _ (by first | omega | (simp; done) | (simp; omega))]; simp [go_sem, *]
      have k25_1_1 : w25.cell? ⟨w.heap.size + 1, 1, none⟩ = some (.slice A1 us.length c1) := by rw [(bxcell b25).1 _ _ (by first | omega | (simp; done) | (simp; omega))]; simp [go_sem, *]
      have k25_1_2 : w25.cell? ⟨w.heap.size + 1, 2, none⟩ = some (.slice B1 vs.length d1) := by rw [(bxcell b25).1 _ _ (by first | omega | (simp; done) | (simp; omega))]; simp [go_sem, *]
      have k25_2_0 : w25.cell? ⟨g6, 0, none⟩ = some (.bool rs0) := by rw [(bxcell b25).1 _ _ (by first | omega | (simp; done) | (simp; omega))]; simp [go_sem, *]
      have k25_2_1 : w25.cell? ⟨g6, 1, none⟩ = some (.slice A6 n6 c6) := by rw [(bxcell b25).1 _ _ (by first | omega | (simp; done) | (simp; omega))]; simp [go_sem, *]
      have k25_2_2 : w25.cell? ⟨g6, 2, none⟩ = some (.slice B6 m6 d6) := by rw [(bxcell b25).1 _ _ (by first | omega | (simp; done) | (simp; omega))]; simp [go_sem, *]
      have k25_3_0 : w25.cell? ⟨w7.heap.size, 0, none⟩ = some (.bool s0) := by rw [(bxcell b25).1 _ _ (by first | omega | (simp; done) | (simp; omega))]; simp [go_sem, *]
      have k25_3_1 : w25.cell? ⟨w7.heap.size, 1, none⟩ = some (.slice A7 n7 c7) := by rw [(bxcell b25).1 _ _ (by first | omega | (simp; done) | (simp; omega))]; simp [go_sem, *]
      have k25_3_2 : w25.cell? ⟨w7.heap.size, 2, none⟩ = some (.slice B7 m7 d7) := by rw [(bxcell b25).1 _ _ (by first | omega | (simp; done) | (simp; omega))]; simp [go_sem, *]
      have k25_4_0 : w25.cell? ⟨w8.heap.size, 0, none⟩ = some (.bool s1) := by rw [(bxcell b25).1 _ _ (by first | omega | (simp; done) | (simp; omega))]; simp [go_sem, *]
      have k25_4_1 : w25.cell? ⟨w8.heap.size, 1, none⟩ = some (.slice A8 n8 c8) := by rw [(bxcell b25).1 _ _ (by first | omega | (simp; done) | (simp; omega))]; simp [go_sem, *]
      have k25_4_2 : w25.cell? ⟨w8.heap.size, 2, none⟩ = some (.slice B8 m8 d8) := by rw [(bxcell b25).1 _ _ (by first | omega | (simp; done) | (simp; omega))]; simp [go_sem, *]
      have k25_5_0 : w25.cell? ⟨w9.heap.size, 0, none⟩ = some (.bool rs0) := by rw [(bxcell b25).1 _ _ (by first | omega | (simp; done) | (simp; omega))]; simp [go_sem, *]
      have k25_5_1 : w25.cell? ⟨w9.heap.size, 1, none⟩ = some (.slice A9 n9 c9) := by rw [(bxcell b25).1 _ _ (by first | omega | (simp; done) | (simp; omega))]; simp [go_sem, *]
      have k25_5_2 : w25.cell? ⟨w9.heap.size, 2, none⟩ = some (.slice B9 m9 d9) := by rw [(bxcell b25).1 _ _ (by first | omega | (simp; done) | (simp; omega))]; simp [go_sem, *]
      have k25_6_0 : w25.cell? ⟨g23, 0, none⟩ = some (.bool rs0) := by rw [(bxcell b25).1 _ _ (by first | omega | (simp; done) | (simp; omega))]; simp [go_sem, *]
      have k25_6_1 : w25.cell? ⟨g23, 1, none⟩ = some (.slice A23 n23 c23) := by rw [(bxcell b25).1 _ _ (by first | omega | (simp; done) | (simp; omega))]; simp [go_sem, *]
      have k25_6_2 : w25.cell? ⟨g23, 2, none⟩ = some (.slice B23 m23 d23) := by rw [(bxcell b25).1 _ _ (by first | omega | (simp; done) | (simp; omega))]; simp [go_sem, *]
      clear k24_0_0 k24_0_1 k24_0_2 k24_1_0 k24_1_1 k24_1_2 k24_2_0 k24_2_1 k24_2_2 k24_3_0 k24_3_1 k24_3_2 k24_4_0 k24_4_1 k24_4_2 k24_5_0 k24_5_1 k24_5_2 k24_6_0 k24_6_1 k24_6_2 y24_0 y24_1 y24_2 y24_3 y24_4 y24_5 y24_6
      go_wp2
      go_ret
      exact ⟨rfl, (by repeat' (first | (with_reducible exact Below.refl _ _) | (with_reducible refine Below.alloc ?_ ?_ _) | (with_reducible refine Below.setCell ?_ ?_ _) | (with_reducible refine below_drewN ?_ _) | (with_reducible refine Below.drew ?_) | (with_reducible refine below_step (by assumption) ?_ ?_) | omega | (simp; done) | (simp; omega)))⟩
theorem fnExactRatMin.own : ownKnob Try.prog.godebug = none := by kernel_rfl
theorem fnExactRatMin.laidOut : laidOutB Try.prog = true := by kernel_rfl
set_option linter.unusedVariables false in
set_option maxRecDepth 100000 in
theorem fnExactRatMin.lifted (os : Os) (started : os.Started) (H : Type) (enc : TypeId × Value → H) :
    ReturnsInHanded {} Try.checked os 8 .any (Rows.fnExactRatMinSpec.pre6 enc Try.prog Try.f8 Rows.fnExactRatMinRow.domain false) (Rows.fnExactRatMinSpec.post enc Try.prog Try.f8 false true false false) := by
  refine returnsInHanded_of_change (C := Try.checked) fnExactRatMin.own started (by kernel_rfl) Try.func8
    (ChangeSpec.witness6 (enc := enc) (C := Try.checked) false ⟨#[], #[.agg #[.bool false, .slice none 0 0, .slice none 0 0], .agg #[.bool false, .slice none 0 0, .slice none 0 0]], []⟩ 8 (by kernel_rfl) (by kernel_rfl) (by kernel_rfl) (by kernel_rfl)) ?_
  intro W base args ds gs before hval0 hW hcnd _
  have hval : ∀ (j : Nat) t v, Try.f8.params[j]? = some t → args[j]? = some v → Value.okWide Try.prog W .any base t v := hval0
  have hW' := hW
  obtain ⟨p, q, hA0, hV, rfl, hfz, hnd⟩ := hW
  have hA : DataW.TrodAll enc Try.prog W 0 (fun _ => true) true Try.f8.params.toList args.toList ds p := hA0
  rw [Try.params8] at hA hval
  obtain ⟨v0, vs0, d0, ds0, p0, q0, hargs, rfl, rfl, h0, r0⟩ := trodAll_cons hA
  obtain ⟨v1, vs1, d1, ds1, p1, q1, rfl, rfl, rfl, h1, r1⟩ := trodAll_cons r0
  obtain ⟨rfl, rfl, rfl⟩ := trodAll_nil r1
  obtain rfl : args = #[v0, v1] := by cases args; simp_all
  obtain ⟨rfl, rfl⟩ := trodVars_none hV
  have k0 := h0
  have lt0 : ∀ x ∈ p0, x.block < W.heap.size := by obtain ⟨m, hm⟩ := k0; exact DataW.trod_lt m _ _ _ hm
  have k1 := h1
  have lt1 : ∀ x ∈ p1, x.block < W.heap.size := by obtain ⟨m, hm⟩ := k1; exact DataW.trod_lt m _ _ _ hm
  obtain ⟨n0, u0, x0, t0, y0, rfl, s0, f0, z0, g0⟩ := open_ratL Try.underlying43 (by kernel_rfl) rfl rfl rfl rfl (by kernel_rfl) Try.underlying31 (by kernel_rfl) rfl rfl rfl rfl (by kernel_rfl) Try.underlying4 Try.underlying22 Try.underlying3 (by kernel_rfl) (hval 0 43 v0 rfl rfl) h0
  obtain ⟨n1, u1, x1, t1, y1, rfl, s1, f1, z1, g1⟩ := open_ratL Try.underlying43 (by kernel_rfl) rfl rfl rfl rfl (by kernel_rfl) Try.underlying31 (by kernel_rfl) rfl rfl rfl rfl (by kernel_rfl) Try.underlying4 Try.underlying22 Try.underlying3 (by kernel_rfl) (hval 1 43 v1 rfl rfl) h1
  clear hA0 hval0
  refine (walk_FnExactRatMin W n0 u0 x0 t0 y0 s0 f0 z0 g0 n1 u1 x1 t1 y1 s1 f1 z1 g1).mono fun e W' ⟨he, bel⟩ => ?_
  subst he
  exact ⟨_, rfl, _, _, _, [], _, [], hW', trodAll_mk1 (shut_bool Try.underlying4 _), (trodAll_cons_mk (Below.trod fnExactRatMin.laidOut (by kernel_rfl) (of_decide_eq_true (by kernel_rfl)) k0 bel lt0) (trodAll_cons_mk (Below.trod fnExactRatMin.laidOut (by kernel_rfl) (of_decide_eq_true (by kernel_rfl)) k1 bel lt1) trodAll_mk0)), rfl, bel.frame _, fun h => by cases h⟩
theorem fnExactRatMin.over : Rows.fnExactRatMinRow.holds Try.pinned (OpenSpec.ofChange Rows.fnExactRatMinSpec) :=
  OpenClaim.holds_of_wide 8 Try.f8 rfl rfl rfl rfl rfl rfl rfl ⟨rfl, rfl, rfl, rfl, rfl⟩ rfl rfl rfl rfl rfl (by kernel_rfl) Try.func8 (by kernel_rfl)
    (of_decide_eq_true (by kernel_rfl)) (by unfold Func.isWrapper; first | (rw [if_pos (by decide +kernel)]; kernel_rfl) | (rw [if_neg (by decide +kernel)]; exact ⟨rfl, rfl⟩))
    (fun os started H enc _ => fnExactRatMin.lifted os started H enc)
/-- THE STATEMENT. -/
theorem fnExactRatMin_holds : Rows.FnExactRatMinSaid := fnExactRatMin.over
#print axioms fnExactRatMin_holds
end Go.Proofs.Ythbpdlmcpgegpaa
