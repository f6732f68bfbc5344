/-
  Contracts: BigIntOf, RatFromInt of both packages. Written by an AI agent.
-/
import Derived.Test.YthbpdlmcpgegpaaBigZF
import Derived.Test.YthbpdlmcpgegpaaNatOf
import Derived.Test.YthbpdlmcpgegpaaToInt
import Derived.Test.YthbpdlmcpgegpaaGuess
namespace Go.Proofs.Ythbpdlmcpgegpaa
open Go.RowKit

theorem int_lt {n : Int} (h1 : -9223372036854775808 ≤ n) (h2 : n ≤ 9223372036854775807) : n.natAbs < pw 60 := Nat.lt_of_lt_of_le (show n.natAbs < pw 3 by unfold pw; omega) (pw_le (by omega))
theorem ofInt_len {n : Int} (h1 : -9223372036854775808 ≤ n) (h2 : n ≤ 9223372036854775807) : (toL n.natAbs).length ≤ 2000000 := Nat.le_trans (toL_len_le.2 (int_lt h1 h2)) (by omega)
theorem bigZ_of_neg {n : Int} (h : n < 0) : bigZ true n.natAbs = n := by simp [bigZ]; omega
theorem bigZ_of_pos {n : Int} (h : ¬ n < 0) : bigZ false n.natAbs = n := by simp [bigZ]; omega
theorem lim_neg {n : Int} (h1 : -9223372036854775808 ≤ n) (h2 : n ≤ 9223372036854775807) (h : n < 0) : limZ (bigZ true n.natAbs) = n := by rw [bigZ_of_neg h, limZ_eq (int_lt h1 h2)]
theorem lim_pos {n : Int} (h1 : -9223372036854775808 ≤ n) (h2 : n ≤ 9223372036854775807) (h : ¬ n < 0) : limZ (bigZ false n.natAbs) = n := by rw [bigZ_of_pos h, limZ_eq (int_lt h1 h2)]
theorem toL_min : toL 9223372036854775808 = [854775808, 223372036, 9] := by
  rw [toL_pos (by omega), toL_pos (by omega), toL_pos (by omega), show 9223372036854775808 / 1000000000 / 1000000000 / 1000000000 = 0 by omega, toL_zero]
  rfl
theorem own_minB {w : World} {g base : Nat} (hg : g = w.heap.size) (hb : base ≤ w.heap.size) : Own (w.alloc (.cells #[.int .i64 854775808, .int .i64 223372036, .int .i64 9] 3)) base 3 (.slice (some ⟨g, 0, none⟩) 3 3) (toL 9223372036854775808) := by
  subst hg
  rw [toL_min]
  exact own_lit [854775808, 223372036, 9] (by decide) hb

set_option maxHeartbeats 2000000 in
theorem impl_BigIntOf (n : Int) (w : World) (h1 : -9223372036854775808 ≤ n) (h2 : n ≤ 9223372036854775807) :
    Calls Try.prog 55 #[.int .i64 n] w (RetI n w) := by
  by_cases hn : n < 0
  · have HL := Lib.hid (lim_neg h1 h2 hn)
    have HA := Lib.hid (show (-(n + 1) + 1).toNat = n.natAbs by omega)
    go_enter Try.func55, Try.ntmps55
    go_wp2_with fail
    (with_reducible refine (impl_natOfUintI (-(n + 1) + 1) _ (by omega) (by omega)).mono ?_); rintro e w1 ⟨r1, rfl, o1, b1⟩; obtain ⟨hc1, hf1⟩ := bxcell b1; have q1_0 := fun o => hc1 (w.heap.size) o (by first | omega | (simp; done) | (simp; omega)); have f1_0 := fun o => hf1 (w.heap.size) o (by first | omega | (simp; done) | (simp; omega)); have hz1 := b1.size; (try simp at hz1); have z1_0 : w.heap.size < w1.heap.size := (by omega); have n1_0 := Nat.ne_of_lt z1_0; have m1_0 := (Nat.ne_of_lt z1_0).symm
    rw [HA.out] at o1
    have O1 := Lib.hid (o1.rebase (base' := w.heap.size + 1) (by first | omega | (simp; done) | (simp; omega)))
    clear o1
    go_wp2_with fail
    (with_reducible refine (impl_bigMake true _ n.natAbs (w.heap.size + 1) _ O1.out).mono ?_); rintro e w2 ⟨s2, A2, n2, c2, rfl, hs2, o2, b2⟩; obtain ⟨hc2, hf2⟩ := bxcell b2; have q2_0 := fun o => hc2 (w.heap.size) o (by first | omega | (simp; done) | (simp; omega)); have f2_0 := fun o => hf2 (w.heap.size) o (by first | omega | (simp; done) | (simp; omega)); have hz2 := b2.size; (try simp at hz2); have z2_0 : w.heap.size < w2.heap.size := (by omega); have n2_0 := Nat.ne_of_lt z2_0; have m2_0 := (Nat.ne_of_lt z2_0).symm
    rw [HL.out] at hs2 o2
    have HS2 := Lib.hid hs2
    have O2 := Lib.hid o2
    clear hs2 o2
    go_wp2
    exact bodyPost_ret (v := .agg #[.bool s2, .slice A2 n2 c2]) (by simp [results, Try.results55, go_sem, *]) rfl (ret_made rfl HS2.out (by refine Own.rebase (base := w.heap.size + 1) ?_ (by first | omega | (simp; done) | (simp; omega)); have this := O2.out; (try rw [List.nil_append] at this); repeat' (first | (with_reducible refine Own.far ?_ _ _ ?_) | (exact this) | (simp; done) | (simp; omega) | (simpa using this))) (by repeat' (first | (with_reducible exact Below.refl _ _) | (with_reducible refine Below.alloc ?_ ?_ _) | (with_reducible refine Below.setCell ?_ ?_ _) | (with_reducible refine below_drewN ?_ _) | (with_reducible refine Below.drew ?_) | (with_reducible refine below_step (by assumption) ?_ ?_) | omega | (simp; done) | (simp; omega))))
  · have HL := Lib.hid (lim_pos h1 h2 hn)
    have HA := Lib.hid (show n.toNat = n.natAbs by omega)
    have h0 : 0 ≤ n := by omega
    go_enter Try.func55, Try.ntmps55
    go_wp2_with fail
    (with_reducible refine (impl_natOfUintI n _ (by omega) (by omega)).mono ?_); rintro e w1 ⟨r1, rfl, o1, b1⟩; obtain ⟨hc1, hf1⟩ := bxcell b1; have q1_0 := fun o => hc1 (w.heap.size) o (by first | omega | (simp; done) | (simp; omega)); have f1_0 := fun o => hf1 (w.heap.size) o (by first | omega | (simp; done) | (simp; omega)); have hz1 := b1.size; (try simp at hz1); have z1_0 : w.heap.size < w1.heap.size := (by omega); have n1_0 := Nat.ne_of_lt z1_0; have m1_0 := (Nat.ne_of_lt z1_0).symm
    rw [HA.out] at o1
    have O1 := Lib.hid (o1.rebase (base' := w.heap.size + 1) (by first | omega | (simp; done) | (simp; omega)))
    clear o1
    go_wp2_with fail
    (with_reducible refine (impl_bigMake false _ n.natAbs (w.heap.size + 1) _ O1.out).mono ?_); rintro e w2 ⟨s2, A2, n2, c2, rfl, hs2, o2, b2⟩; obtain ⟨hc2, hf2⟩ := bxcell b2; have q2_0 := fun o => hc2 (w.heap.size) o (by first | omega | (simp; done) | (simp; omega)); have f2_0 := fun o => hf2 (w.heap.size) o (by first | omega | (simp; done) | (simp; omega)); have hz2 := b2.size; (try simp at hz2); have z2_0 : w.heap.size < w2.heap.size := (by omega); have n2_0 := Nat.ne_of_lt z2_0; have m2_0 := (Nat.ne_of_lt z2_0).symm
    rw [HL.out] at hs2 o2
    have HS2 := Lib.hid hs2
    have O2 := Lib.hid o2
    clear hs2 o2
    go_wp2
    exact bodyPost_ret (v := .agg #[.bool s2, .slice A2 n2 c2]) (by simp [results, Try.results55, go_sem, *]) rfl (ret_made rfl HS2.out (by refine Own.rebase (base := w.heap.size + 1) ?_ (by first | omega | (simp; done) | (simp; omega)); have this := O2.out; (try rw [List.nil_append] at this); repeat' (first | (with_reducible refine Own.far ?_ _ _ ?_) | (exact this) | (simp; done) | (simp; omega) | (simpa using this))) (by repeat' (first | (with_reducible exact Below.refl _ _) | (with_reducible refine Below.alloc ?_ ?_ _) | (with_reducible refine Below.setCell ?_ ?_ _) | (with_reducible refine below_drewN ?_ _) | (with_reducible refine Below.drew ?_) | (with_reducible refine below_step (by assumption) ?_ ?_) | omega | (simp; done) | (simp; omega))))
set_option maxHeartbeats 2000000 in
theorem spec_BigIntOf (n : Int) (w : World) (h1 : -9223372036854775808 ≤ n) (h2 : n ≤ 9223372036854775807) :
    Calls Try.prog 53 #[.int .i64 n] w (RetI n w) := by
  by_cases hmin : n = -9223372036854775808
  · have HL := Lib.hid (show limZ (bigZ true 9223372036854775808) = n by have := lim_neg h1 h2 (by omega); rwa [hmin] at this ⊢)
    have hb : (n == (-9223372036854775808 : Int)) = true := by simpa using hmin
    clear hmin
    go_enter Try.func53, Try.ntmps53
    go_wp2_with fail
    (with_reducible refine (spec_make true _ 9223372036854775808 (w.heap.size + 1) _ (own_minB (by first | omega | (simp; done) | (simp; omega)) (by first | omega | (simp; done) | (simp; omega))) (by first | omega | (simp; done) | (simp; omega))).mono ?_); rintro e w2 ⟨s2, A2, n2, c2, rfl, hs2, o2, b2⟩; obtain ⟨hc2, hf2⟩ := bxcell b2; have q2_0 := fun o => hc2 (w.heap.size) o (by first | omega | (simp; done) | (simp; omega)); have f2_0 := fun o => hf2 (w.heap.size) o (by first | omega | (simp; done) | (simp; omega)); have hz2 := b2.size; (try simp at hz2); have z2_0 : w.heap.size < w2.heap.size := (by omega); have n2_0 := Nat.ne_of_lt z2_0; have m2_0 := (Nat.ne_of_lt z2_0).symm
    rw [HL.out] at hs2 o2
    have HS2 := Lib.hid hs2
    have O2 := Lib.hid o2
    clear hs2 o2
    go_wp2
    exact bodyPost_ret (v := .agg #[.bool s2, .slice A2 n2 c2]) (by simp [results, Try.results53, go_sem, *]) rfl (ret_made rfl HS2.out (by refine Own.rebase (base := w.heap.size + 1) ?_ (by first | omega | (simp; done) | (simp; omega)); have this := O2.out; (try rw [List.nil_append] at this); repeat' (first | (with_reducible refine Own.far ?_ _ _ ?_) | (exact this) | (simp; done) | (simp; omega) | (simpa using this))) (by repeat' (first | (with_reducible exact Below.refl _ _) | (with_reducible refine Below.alloc ?_ ?_ _) | (with_reducible refine Below.setCell ?_ ?_ _) | (with_reducible refine below_drewN ?_ _) | (with_reducible refine Below.drew ?_) | (with_reducible refine below_step (by assumption) ?_ ?_) | omega | (simp; done) | (simp; omega))))
  have hb : (n == (-9223372036854775808 : Int)) = false := beq_eq_false_iff_ne.2 hmin
  by_cases hn : n < 0
  · have HL := Lib.hid (lim_neg h1 h2 hn)
    have HA := Lib.hid (show (-n).toNat = n.natAbs by omega)
    have h1' : -9223372036854775808 < n := by omega
    clear hmin
    go_enter Try.func53, Try.ntmps53
    go_wp2_with fail
    (with_reducible refine (spec_NatOf (-n) _ (by omega) (by omega)).mono ?_); rintro e w1 ⟨r1, rfl, o1, b1⟩; obtain ⟨hc1, hf1⟩ := bxcell b1; have q1_0 := fun o => hc1 (w.heap.size) o (by first | omega | (simp; done) | (simp; omega)); have f1_0 := fun o => hf1 (w.heap.size) o (by first | omega | (simp; done) | (simp; omega)); have hz1 := b1.size; (try simp at hz1); have z1_0 : w.heap.size < w1.heap.size := (by omega); have n1_0 := Nat.ne_of_lt z1_0; have m1_0 := (Nat.ne_of_lt z1_0).symm
    rw [HA.out] at o1
    have O1 := Lib.hid (o1.rebase (base' := w.heap.size + 1) (by first | omega | (simp; done) | (simp; omega)))
    clear o1
    go_wp2_with fail
    (with_reducible refine (spec_make true _ n.natAbs (w.heap.size + 1) _ O1.out (by first | omega | (simp; done) | (simp; omega))).mono ?_); rintro e w2 ⟨s2, A2, n2, c2, rfl, hs2, o2, b2⟩; obtain ⟨hc2, hf2⟩ := bxcell b2; have q2_0 := fun o => hc2 (w.heap.size) o (by first | omega | (simp; done) | (simp; omega)); have f2_0 := fun o => hf2 (w.heap.size) o (by first | omega | (simp; done) | (simp; omega)); have hz2 := b2.size; (try simp at hz2); have z2_0 : w.heap.size < w2.heap.size := (by omega); have n2_0 := Nat.ne_of_lt z2_0; have m2_0 := (Nat.ne_of_lt z2_0).symm
    rw [HL.out] at hs2 o2
    have HS2 := Lib.hid hs2
    have O2 := Lib.hid o2
    clear hs2 o2
    go_wp2
    exact bodyPost_ret (v := .agg #[.bool s2, .slice A2 n2 c2]) (by simp [results, Try.results53, go_sem, *]) rfl (ret_made rfl HS2.out (by refine Own.rebase (base := w.heap.size + 1) ?_ (by first | omega | (simp; done) | (simp; omega)); have this := O2.out; (try rw [List.nil_append] at this); repeat' (first | (with_reducible refine Own.far ?_ _ _ ?_) | (exact this) | (simp; done) | (simp; omega) | (simpa using this))) (by repeat' (first | (with_reducible exact Below.refl _ _) | (with_reducible refine Below.alloc ?_ ?_ _) | (with_reducible refine Below.setCell ?_ ?_ _) | (with_reducible refine below_drewN ?_ _) | (with_reducible refine Below.drew ?_) | (with_reducible refine below_step (by assumption) ?_ ?_) | omega | (simp; done) | (simp; omega))))
  · have HL := Lib.hid (lim_pos h1 h2 hn)
    have HA := Lib.hid (show n.toNat = n.natAbs by omega)
    clear hmin
    go_enter Try.func53, Try.ntmps53
    go_wp2_with fail
    (with_reducible refine (spec_NatOf n _ (by omega) (by omega)).mono ?_); rintro e w1 ⟨r1, rfl, o1, b1⟩; obtain ⟨hc1, hf1⟩ := bxcell b1; have q1_0 := fun o => hc1 (w.heap.size) o (by first | omega | (simp; done) | (simp; omega)); have f1_0 := fun o => hf1 (w.heap.size) o (by first | omega | (simp; done) | (simp; omega)); have hz1 := b1.size; (try simp at hz1); have z1_0 : w.heap.size < w1.heap.size := (by omega); have n1_0 := Nat.ne_of_lt z1_0; have m1_0 := (Nat.ne_of_lt z1_0).symm
    rw [HA.out] at o1
    have O1 := Lib.hid (o1.rebase (base' := w.heap.size + 1) (by first | omega | (simp; done) | (simp; omega)))
    clear o1
    go_wp2_with fail
    (with_reducible refine (spec_make false _ n.natAbs (w.heap.size + 1) _ O1.out (by first | omega | (simp; done) | (simp; omega))).mono ?_); rintro e w2 ⟨s2, A2, n2, c2, rfl, hs2, o2, b2⟩; obtain ⟨hc2, hf2⟩ := bxcell b2; have q2_0 := fun o => hc2 (w.heap.size) o (by first | omega | (simp; done) | (simp; omega)); have f2_0 := fun o => hf2 (w.heap.size) o (by first | omega | (simp; done) | (simp; omega)); have hz2 := b2.size; (try simp at hz2); have z2_0 : w.heap.size < w2.heap.size := (by omega); have n2_0 := Nat.ne_of_lt z2_0; have m2_0 := (Nat.ne_of_lt z2_0).symm
    rw [HL.out] at hs2 o2
    have HS2 := Lib.hid hs2
    have O2 := Lib.hid o2
    clear hs2 o2
    go_wp2
    exact bodyPost_ret (v := .agg #[.bool s2, .slice A2 n2 c2]) (by simp [results, Try.results53, go_sem, *]) rfl (ret_made rfl HS2.out (by refine Own.rebase (base := w.heap.size + 1) ?_ (by first | omega | (simp; done) | (simp; omega)); have this := O2.out; (try rw [List.nil_append] at this); repeat' (first | (with_reducible refine Own.far ?_ _ _ ?_) | (exact this) | (simp; done) | (simp; omega) | (simpa using this))) (by repeat' (first | (with_reducible exact Below.refl _ _) | (with_reducible refine Below.alloc ?_ ?_ _) | (with_reducible refine Below.setCell ?_ ?_ _) | (with_reducible refine below_drewN ?_ _) | (with_reducible refine Below.drew ?_) | (with_reducible refine below_step (by assumption) ?_ ?_) | omega | (simp; done) | (simp; omega))))
end Go.Proofs.Ythbpdlmcpgegpaa
