/-
  Contracts: negating and copying a fraction, both packages. Written by an AI agent.
-/
import Derived.Test.YticekjagmcphbaaGreatDoorRatR
import Derived.Test.YticekjagmcphbaaGreatDoorEmp
namespace Go.Proofs.YticekjagmcphbaaGreatDoor
open Go.RowKit

theorem sgn_dec {u : Bool} {q : Nat} (h : u = true → 0 < q) : u = decide (bigZ u q < 0) := by
  cases u
  · simp [bigZ]
  · have := h rfl
    simp [bigZ]
    omega

set_option maxRecDepth 100000 in
set_option maxHeartbeats 8000000 in
theorem impl_ratNeg (s : Bool) (A1 B1 : Option Addr) (n1 c1 k1 d1 : Nat) (m1 l1 : Nat) (w : World) (u1 : Sl w (.slice A1 n1 c1) (toL m1)) (u2 : Sl w (.slice B1 k1 d1) (toL l1)) (hm1 : m1 < pw 24) (hl1 : l1 < pw 24) (h01 : 0 < l1) :
    Calls Tryz.prog 47 #[.agg #[.bool s, .slice A1 n1 c1, .slice B1 k1 d1]] w (RetQ (bigZ (!s) m1, l1) w) := by
  have U1 := Lib.hid u1
  have U2 := Lib.hid u2
  have M1 := Lib.hid hm1
  have L1 := Lib.hid hl1
  have P1 := Lib.hid h01
  have hlm : (toL m1).length ≤ 24 := toL_len_lt hm1
  have hll : (toL l1).length ≤ 24 := toL_len_lt hl1
  clear u1 u2 hm1 hl1 h01
  have zz : w.heap.size < w.heap.size + 1 + 1 := by omega
  have nn := Nat.ne_of_lt zz
  have mm := (Nat.ne_of_lt zz).symm
  go_enter Tryz.func47, Tryz.ntmps47
  go_wp2_with fail
  (with_reducible refine (impl_good s A1 B1 n1 c1 k1 d1 l1 _ (U2.out.below (by repeat' (first | (with_reducible exact Below.refl _ _) | (with_reducible refine Below.alloc ?_ ?_ _) | (with_reducible refine Below.setCell ?_ ?_ _) | (with_reducible refine below_drewN ?_ _) | (with_reducible refine Below.drew ?_) | (with_reducible refine below_step (by assumption) ?_ ?_) | omega | (simp; done) | (simp; omega)))) P1.out).mono ?_); rintro e w1 ⟨rfl, b1⟩; obtain ⟨hc1, hf1⟩ := bxcell b1; have q1_0 := fun o => hc1 (w.heap.size) o (by first | omega | (simp; done) | (simp; omega)); have q1_1 := fun o => hc1 (w.heap.size + 1) o (by first | omega | (simp; done) | (simp; omega)); have f1_0 := fun o => hf1 (w.heap.size) o (by first | omega | (simp; done) | (simp; omega)); have f1_1 := fun o => hf1 (w.heap.size + 1) o (by first | omega | (simp; done) | (simp; omega)); have hz1 := b1.size; (try simp at hz1); have z1_0 : w.heap.size < w1.heap.size := (by omega); have n1_0 := Nat.ne_of_lt z1_0; have m1_0 := (Nat.ne_of_lt z1_0).symm; have z1_1 : w.heap.size + 1 < w1.heap.size := (by omega); have n1_1 := Nat.ne_of_lt z1_1; have m1_1 := (Nat.ne_of_lt z1_1).symm
  go_wp2_with fail
  have ka0 : w1.cell? ⟨w.heap.size, 0, none⟩ = some (.bool s) := by simp [go_sem, *]
  have ka1 : w1.cell? ⟨w.heap.size, 1, none⟩ = some (.slice A1 n1 c1) := by simp [go_sem, *]
  have ka2 : w1.cell? ⟨w.heap.size, 2, none⟩ = some (.slice B1 k1 d1) := by simp [go_sem, *]
  have kr0 : w1.cell? ⟨w.heap.size + 1, 0, none⟩ = some (.bool false) := by simp [go_sem, *]
  have kf0 : w1.frozen? ⟨w.heap.size + 1, 0, none⟩ = false := by simp [go_sem, *]
  have kr1 : w1.cell? ⟨w.heap.size + 1, 1, none⟩ = some (.slice none 0 0) := by simp [go_sem, *]
  have kf1 : w1.frozen? ⟨w.heap.size + 1, 1, none⟩ = false := by simp [go_sem, *]
  have kr2 : w1.cell? ⟨w.heap.size + 1, 2, none⟩ = some (.slice none 0 0) := by simp [go_sem, *]
  have kf2 : w1.frozen? ⟨w.heap.size + 1, 2, none⟩ = false := by simp [go_sem, *]
  clear hc1 hf1 q1_0 f1_0 q1_1 f1_1
  go_region_held3 (fun w' => w'.cell? ⟨w.heap.size, 0, none⟩ = some (.bool s) ∧ w'.cell? ⟨w.heap.size, 1, none⟩ = some (.slice A1 n1 c1) ∧ w'.cell? ⟨w.heap.size, 2, none⟩ = some (.slice B1 k1 d1)) (go_keep)
    (first
      | (go_at_call 54; (with_reducible refine (impl_copyInts _ (toL m1) _ (U1.out.below (by repeat' (first | (with_reducible exact Below.refl _ _) | (with_reducible refine Below.alloc ?_ ?_ _) | (with_reducible refine Below.setCell ?_ ?_ _) | (with_reducible refine below_drewN ?_ _) | (with_reducible refine Below.drew ?_) | (with_reducible refine below_step (by assumption) ?_ ?_) | omega | (simp; done) | (simp; omega)))) (by omega)).mono ?_); rintro e w3 ⟨r3, rfl, o3, b3⟩; obtain ⟨hc3, hf3⟩ := bxcell b3; have q3_0 := fun o => hc3 (w.heap.size) o (by first | omega | (simp; done) | (simp; omega)); have q3_1 := fun o => hc3 (w.heap.size + 1) o (by first | omega | (simp; done) | (simp; omega)); have f3_0 := fun o => hf3 (w.heap.size) o (by first | omega | (simp; done) | (simp; omega)); have f3_1 := fun o => hf3 (w.heap.size + 1) o (by first | omega | (simp; done) | (simp; omega)); have hz3 := b3.size; (try simp at hz3); have z3_0 : w.heap.size < w3.heap.size := (by omega); have n3_0 := Nat.ne_of_lt z3_0; have m3_0 := (Nat.ne_of_lt z3_0).symm; have z3_1 : w.heap.size + 1 < w3.heap.size := (by omega); have n3_1 := Nat.ne_of_lt z3_1; have m3_1 := (Nat.ne_of_lt z3_1).symm; have O3 := Lib.hid (OwnR.of o3); clear o3)
      | (go_at_call 35; (with_reducible refine (impl_makeR (!s) _ m1 _ _ _ (OwnR.here O3.out (by repeat' (first | (with_reducible exact Below.refl _ _) | (with_reducible refine Below.alloc ?_ ?_ _) | (with_reducible refine Below.setCell ?_ ?_ _) | (with_reducible refine below_drewN ?_ _) | (with_reducible refine Below.drew ?_) | (with_reducible refine below_step (by assumption) ?_ ?_) | omega | (simp; done) | (simp; omega)))) M1.out (by first | omega | (simp; done) | (simp; omega))).mono ?_); rintro e w4 ⟨u4, A4, n4, c4, rfl, hu4, o4, b4⟩; obtain ⟨hc4, hf4⟩ := bxcell b4; have q4_0 := fun o => hc4 (w.heap.size) o (by first | omega | (simp; done) | (simp; omega)); have q4_1 := fun o => hc4 (w.heap.size + 1) o (by first | omega | (simp; done) | (simp; omega)); have f4_0 := fun o => hf4 (w.heap.size) o (by first | omega | (simp; done) | (simp; omega)); have f4_1 := fun o => hf4 (w.heap.size + 1) o (by first | omega | (simp; done) | (simp; omega)); have hz4 := b4.size; (try simp at hz4); have z4_0 : w.heap.size < w4.heap.size := (by omega); have n4_0 := Nat.ne_of_lt z4_0; have m4_0 := (Nat.ne_of_lt z4_0).symm; have z4_1 : w.heap.size + 1 < w4.heap.size := (by omega); have n4_1 := Nat.ne_of_lt z4_1; have m4_1 := (Nat.ne_of_lt z4_1).symm; have HU4 := Lib.hid hu4; have O4 := Lib.hid o4; clear hu4 o4)
      | (go_at_call 54; (with_reducible refine (impl_copyInts _ (toL l1) _ (U2.out.below (by repeat' (first | (with_reducible exact Below.refl _ _) | (with_reducible refine Below.alloc ?_ ?_ _) | (with_reducible refine Below.setCell ?_ ?_ _) | (with_reducible refine below_drewN ?_ _) | (with_reducible refine Below.drew ?_) | (with_reducible refine below_step (by assumption) ?_ ?_) | omega | (simp; done) | (simp; omega)))) (by omega)).mono ?_); rintro e w5 ⟨r5, rfl, o5, b5⟩; obtain ⟨hc5, hf5⟩ := bxcell b5; have q5_0 := fun o => hc5 (w.heap.size) o (by first | omega | (simp; done) | (simp; omega)); have q5_1 := fun o => hc5 (w.heap.size + 1) o (by first | omega | (simp; done) | (simp; omega)); have f5_0 := fun o => hf5 (w.heap.size) o (by first | omega | (simp; done) | (simp; omega)); have f5_1 := fun o => hf5 (w.heap.size + 1) o (by first | omega | (simp; done) | (simp; omega)); have hz5 := b5.size; (try simp at hz5); have z5_0 : w.heap.size < w5.heap.size := (by omega); have n5_0 := Nat.ne_of_lt z5_0; have m5_0 := (Nat.ne_of_lt z5_0).symm; have z5_1 : w.heap.size + 1 < w5.heap.size := (by omega); have n5_1 := Nat.ne_of_lt z5_1; have m5_1 := (Nat.ne_of_lt z5_1).symm; obtain ⟨D5, e5, hv5, x5, y5, v5⟩ := o5.form; subst hv5; clear x5 y5 v5; have O5 := Lib.hid (OwnR.of o5); clear o5))
  all_goals
    go_wp2
    exact bodyPost_ret (v := .agg #[.bool u4, .slice A4 n4 c4, .slice D5 (toL l1).length e5]) (by simp [results, Tryz.results47, go_sem, *]) rfl (retq_made rfl HU4.out (bigZ_abs _ _) (PairR.mk' (lo1 := w1.heap.size) (hi1 := w3.heap.size) (lo2 := w4.heap.size) (hi2 := w5.heap.size) (by have hfar := O4.out.below b5 (by first | omega | (simp; done) | (simp; omega)); repeat' (first | (with_reducible exact hfar) | (with_reducible refine OwnR.far ?_ _ _ ?_) | (with_reducible refine OwnR.allocd ?_ _ ?_) | (left; first | omega | (simp; done) | (simp; omega)) | (right; first | omega | (simp; done) | (simp; omega)) | omega | (simp; done) | (simp; omega) | (exact hfar))) (by have hfar := O5.out; repeat' (first | (with_reducible exact hfar) | (with_reducible refine OwnR.far ?_ _ _ ?_) | (with_reducible refine OwnR.allocd ?_ _ ?_) | (left; first | omega | (simp; done) | (simp; omega)) | (right; first | omega | (simp; done) | (simp; omega)) | omega | (simp; done) | (simp; omega) | (exact hfar))) (by first | omega | (simp; done) | (simp; omega)) (by first | omega | (simp; done) | (simp; omega)) (.inl (by first | omega | (simp; done) | (simp; omega))) (by first | omega | (simp; done) | (simp; omega)) (by first | omega | (simp; done) | (simp; omega)) (by first | omega | (simp; done) | (simp; omega)) (by first | omega | (simp; done) | (simp; omega))) (by repeat' (first | (with_reducible exact Below.refl _ _) | (with_reducible refine Below.alloc ?_ ?_ _) | (with_reducible refine Below.setCell ?_ ?_ _) | (with_reducible refine below_drewN ?_ _) | (with_reducible refine Below.drew ?_) | (with_reducible refine below_step (by assumption) ?_ ?_) | omega | (simp; done) | (simp; omega))))
end Go.Proofs.YticekjagmcphbaaGreatDoor
