/-
  Contracts: RatFromInt of both packages. Written by an AI agent.
-/
import Derived.Test.YthpfmeipppncmaaBigOf
import Derived.Test.YthpfmeipppncmaaRatM
namespace Go.Proofs.Ythpfmeipppncmaa
open Go.RowKit

theorem RetI.made {r : Int} {w w' : World} {en : Ending} (h : RetI r w en w') : RetZ r w en w' := by
  obtain ⟨A, n, c, e, o, b⟩ := h
  exact ⟨_, A, n, c, e, rfl, o, b⟩
theorem own_oneL {w : World} {g base e : Nat} (hg : g = w.heap.size) (hb : base ≤ w.heap.size) : Own (w.alloc (.cells #[.int .i64 1] e)) base e (.slice (some ⟨g, 0, none⟩) 1 1) (toL 1) := by
  subst hg
  rw [show toL 1 = [1] by rw [toL_pos (by omega), toL_zero]; rfl]
  exact own_one w 1 hb
theorem own_oneR {w : World} {g e : Nat} (hg : g = w.heap.size) : OwnR (w.alloc (.cells #[.int .i64 1] e)) g (g + 1) e (.slice (some ⟨g, 0, none⟩) 1 1) (toL 1) := by
  subst hg
  exact ⟨own_oneL rfl (Nat.le_refl _), fun k hk => by cases hk; exact Nat.lt_succ_self _⟩
theorem fromInt_len {n : Int} (h1 : -9223372036854775808 ≤ n) (h2 : n ≤ 9223372036854775807) : (toL n.natAbs).length ≤ 2000000 ∧ (toL 1).length ≤ 2000000 := by
  constructor
  · exact Nat.le_trans (toL_len_lt (k := 3) (by unfold pw; omega)) (by omega)
  · rw [toL_pos (by omega), toL_zero]
    simp

set_option maxHeartbeats 2000000 in
theorem impl_RatFromInt (n : Int) (w : World) (h1 : -9223372036854775808 ≤ n) (h2 : n ≤ 9223372036854775807) :
    Calls Try.prog 30 #[.int .i64 n] w (RetQ (n, 1) w) := by
  go_enter Try.func30, Try.ntmps30
  go_wp2_with fail
  (with_reducible refine ((impl_BigIntOf n _ h1 h2).mono (fun _ _ h => RetI.made h)).mono ?_); rintro e w1 ⟨s1, A1, n1, c1, rfl, hs1, o1, b1⟩; obtain ⟨hc1, hf1⟩ := bxcell b1; have q1_0 := fun o => hc1 (w.heap.size) o (by first | omega | (simp; done) | (simp; omega)); have f1_0 := fun o => hf1 (w.heap.size) o (by first | omega | (simp; done) | (simp; omega)); have hz1 := b1.size; (try simp at hz1); have z1_0 : w.heap.size < w1.heap.size := (by omega); have n1_0 := Nat.ne_of_lt z1_0; have m1_0 := (Nat.ne_of_lt z1_0).symm; have HS1 := Lib.hid hs1; have O1 := Lib.hid ((OwnR.of o1).wide (lo' := w.heap.size + 1) (by first | omega | (simp; done) | (simp; omega)) (Nat.le_refl _)); clear hs1 o1
  go_wp2
  exact bodyPost_ret (v := .agg #[.bool s1, .slice A1 n1 c1, .slice (some ⟨w1.heap.size, 0, none⟩) 1 1]) (by simp [results, Try.results30, go_sem, *]) rfl (retq_made rfl HS1.out rfl (PairR.mk' (lo1 := w.heap.size + 1) (hi1 := w1.heap.size) (lo2 := w1.heap.size) (hi2 := w1.heap.size + 1) (by have hfar := O1.out; repeat' (first | (with_reducible exact hfar) | (with_reducible refine OwnR.far ?_ _ _ ?_) | (with_reducible refine OwnR.allocd ?_ _ ?_) | (left; first | omega | (simp; done) | (simp; omega)) | (right; first | omega | (simp; done) | (simp; omega)) | omega | (simp; done) | (simp; omega) | (exact hfar))) (own_oneR (by simp)) (by first | omega | (simp; done) | (simp; omega)) (by first | omega | (simp; done) | (simp; omega)) (.inl (Nat.le_refl _)) (by first | omega | (simp; done) | (simp; omega)) (by first | omega | (simp; done) | (simp; omega)) (by first | omega | (simp; done) | (simp; omega)) (by first | omega | (simp; done) | (simp; omega))) (by repeat' (first | (with_reducible exact Below.refl _ _) | (with_reducible refine Below.alloc ?_ ?_ _) | (with_reducible refine Below.setCell ?_ ?_ _) | (with_reducible refine below_drewN ?_ _) | (with_reducible refine Below.drew ?_) | (with_reducible refine below_step (by assumption) ?_ ?_) | omega | (simp; done) | (simp; omega))))

set_option maxHeartbeats 2000000 in
theorem spec_RatFromInt (n : Int) (w : World) (h1 : -9223372036854775808 ≤ n) (h2 : n ≤ 9223372036854775807) :
    Calls Try.prog 29 #[.int .i64 n] w (RetQ (n, 1) w) := by
  go_enter Try.func29, Try.ntmps29
  go_wp2_with fail
  (with_reducible refine ((spec_BigIntOf n _ h1 h2).mono (fun _ _ h => RetI.made h)).mono ?_); rintro e w1 ⟨s1, A1, n1, c1, rfl, hs1, o1, b1⟩; obtain ⟨hc1, hf1⟩ := bxcell b1; have q1_0 := fun o => hc1 (w.heap.size) o (by first | omega | (simp; done) | (simp; omega)); have f1_0 := fun o => hf1 (w.heap.size) o (by first | omega | (simp; done) | (simp; omega)); have hz1 := b1.size; (try simp at hz1); have z1_0 : w.heap.size < w1.heap.size := (by omega); have n1_0 := Nat.ne_of_lt z1_0; have m1_0 := (Nat.ne_of_lt z1_0).symm; have HS1 := Lib.hid hs1; have O1 := Lib.hid ((OwnR.of o1).wide (lo' := w.heap.size + 1) (by first | omega | (simp; done) | (simp; omega)) (Nat.le_refl _)); clear hs1 o1
  go_wp2
  exact bodyPost_ret (v := .agg #[.bool s1, .slice A1 n1 c1, .slice (some ⟨w1.heap.size, 0, none⟩) 1 1]) (by simp [results, Try.results29, go_sem, *]) rfl (retq_made rfl HS1.out rfl (PairR.mk' (lo1 := w.heap.size + 1) (hi1 := w1.heap.size) (lo2 := w1.heap.size) (hi2 := w1.heap.size + 1) (by have hfar := O1.out; repeat' (first | (with_reducible exact hfar) | (with_reducible refine OwnR.far ?_ _ _ ?_) | (with_reducible refine OwnR.allocd ?_ _ ?_) | (left; first | omega | (simp; done) | (simp; omega)) | (right; first | omega | (simp; done) | (simp; omega)) | omega | (simp; done) | (simp; omega) | (exact hfar))) (own_oneR (by simp)) (by first | omega | (simp; done) | (simp; omega)) (by first | omega | (simp; done) | (simp; omega)) (.inl (Nat.le_refl _)) (by first | omega | (simp; done) | (simp; omega)) (by first | omega | (simp; done) | (simp; omega)) (by first | omega | (simp; done) | (simp; omega)) (by first | omega | (simp; done) | (simp; omega))) (by repeat' (first | (with_reducible exact Below.refl _ _) | (with_reducible refine Below.alloc ?_ ?_ _) | (with_reducible refine Below.setCell ?_ ?_ _) | (with_reducible refine below_drewN ?_ _) | (with_reducible refine Below.drew ?_) | (with_reducible refine below_step (by assumption) ?_ ?_) | omega | (simp; done) | (simp; omega))))

end Go.Proofs.Ythpfmeipppncmaa
