/-
  Contracts: ParseRat of both packages. Written by an AI agent.
-/
import Derived.Test.YticekjagmcphbaaGreatDoorBigZF
import Derived.Test.YticekjagmcphbaaGreatDoorNatOf
import Derived.Test.YticekjagmcphbaaGreatDoorToInt
import Derived.Test.YticekjagmcphbaaGreatDoorGuess
import Derived.Test.YticekjagmcphbaaGreatDoorRatM
import Derived.Test.YticekjagmcphbaaGreatDoorRatY
import Derived.Test.YticekjagmcphbaaGreatDoorOwn2
import Derived.Test.YticekjagmcphbaaGreatDoorTrim
import Derived.Test.YticekjagmcphbaaGreatDoorDec
import Derived.Test.YticekjagmcphbaaGreatDoorBig
import Derived.Deep.RegionHeld3
import Derived.Test.YticekjagmcphbaaGreatDoorShelf
import Derived.Lib.ItoaLen
import Derived.Deep.RegionWith
import Derived.Lib.Repeat
import Derived.Test.YticekjagmcphbaaGreatDoorBigOk
import Derived.Test.YticekjagmcphbaaGreatDoorCmp
import Derived.Test.YticekjagmcphbaaGreatDoorRatOk
import Derived.Test.YticekjagmcphbaaGreatDoorBox
import Derived.Test.YticekjagmcphbaaGreatDoorParse
import Derived.Test.YticekjagmcphbaaGreatDoorBigM
import Derived.Test.YticekjagmcphbaaGreatDoorText
namespace Go.Proofs.YticekjagmcphbaaGreatDoor
open Go.RowKit

theorem int_lt {n : Int} (h1 : -9223372036854775808 ≤ n) (h2 : n ≤ 9223372036854775807) : n.natAbs < pw 60 := Nat.lt_of_lt_of_le (show n.natAbs < pw 3 by unfold pw; omega) (pw_le (by omega))
theorem ofInt_len {n : Int} (h1 : -9223372036854775808 ≤ n) (h2 : n ≤ 9223372036854775807) : (toL n.natAbs).length ≤ 2000000 := Nat.le_trans (toL_len_le.2 (int_lt h1 h2)) (by omega)
theorem bigZ_of_neg {n : Int} (h : n < 0) : bigZ true n.natAbs = n := by simp [bigZ]; omega
theorem bigZ_of_pos {n : Int} (h : ¬ n < 0) : bigZ false n.natAbs = n := by simp [bigZ]; omega
theorem lim_neg {n : Int} (h1 : -9223372036854775808 ≤ n) (h2 : n ≤ 9223372036854775807) (h : n < 0) : limZ (bigZ true n.natAbs) = n := by rw [bigZ_of_neg h, limZ_eq (int_lt h1 h2)]
theorem lim_pos {n : Int} (h1 : -9223372036854775808 ≤ n) (h2 : n ≤ 9223372036854775807) (h : ¬ n < 0) : limZ (bigZ false n.natAbs) = n := by rw [bigZ_of_pos h, limZ_eq (int_lt h1 h2)]
theorem toL_min : toL 9223372036854775808 = [854775808, 223372036, 9] := by
  rw [toL_pos (by omega), toL_pos (by omega), toL_pos (by omega), show 9223372036854775808 / 1000000000 / 1000000000 / 1000000000 = 0 by omega, toL_zero]
  rfl
theorem own_minB {w : World} {g base : Nat} (hg : g = w.heap.size) (hb : base ≤ w.heap.size) : Own (w.alloc (.cells #[.int .i64 854775808, .int .i64 223372036, .int .i64 9] 3)) base 3 (.slice (some ⟨g, 0, none⟩) 3 3) (toL 9223372036854775808) := by
  subst hg
  rw [toL_min]
  exact own_lit [854775808, 223372036, 9] (by decide) hb

set_option maxHeartbeats 2000000 in
theorem spec_BigIntOf (n : Int) (w : World) (h1 : -9223372036854775808 ≤ n) (h2 : n ≤ 9223372036854775807) :
    Calls Tryz.prog 50 #[.int .i64 n] w (RetI n w) := by
  by_cases hmin : n = -9223372036854775808
  · have HL := Lib.hid (show limZ (bigZ true 9223372036854775808) = n by have := lim_neg h1 h2 (by omega); rwa [hmin] at this ⊢)
    have hb : (n == (-9223372036854775808 : Int)) = true := by simpa using hmin
    clear hmin
    go_enter Tryz.func50, Tryz.ntmps50
    go_wp2_with fail
    (with_reducible refine (spec_make true _ 9223372036854775808 (w.heap.size + 1) _ (own_minB (by first | omega | (simp; done) | (simp; omega)) (by first | omega | (simp; done) | (simp; omega))) (by first | omega | (simp; done) | (simp; omega))).mono ?_); rintro e w2 ⟨s2, A2, n2, c2, rfl, hs2, o2, b2⟩; obtain ⟨hc2, hf2⟩ := bxcell b2; have q2_0 := fun o => hc2 (w.heap.size) o (by first | omega | (simp; done) | (simp; omega)); have f2_0 := fun o => hf2 (w.heap.size) o (by first | omega | (simp; done) | (simp; omega)); have hz2 := b2.size; (try simp at hz2); have z2_0 : w.heap.size < w2.heap.size := (by omega); have n2_0 := Nat.ne_of_lt z2_0; have m2_0 := (Nat.ne_of_lt z2_0).symm
    rw [HL.out] at hs2 o2
    have HS2 := Lib.hid hs2
    have O2 := Lib.hid o2
    clear hs2 o2
    go_wp2
    exact bodyPost_ret (v := .agg #[.bool s2, .slice A2 n2 c2]) (by simp [results, Tryz.results50, go_sem, *]) rfl (ret_made rfl HS2.out (by refine Own.rebase (base := w.heap.size + 1) ?_ (by first | omega | (simp; done) | (simp; omega)); have this := O2.out; (try rw [List.nil_append] at this); repeat' (first | (with_reducible refine Own.far ?_ _ _ ?_) | (exact this) | (simp; done) | (simp; omega) | (simpa using this))) (by repeat' (first | (with_reducible exact Below.refl _ _) | (with_reducible refine Below.alloc ?_ ?_ _) | (with_reducible refine Below.setCell ?_ ?_ _) | (with_reducible refine below_drewN ?_ _) | (with_reducible refine Below.drew ?_) | (with_reducible refine below_step (by assumption) ?_ ?_) | omega | (simp; done) | (simp; omega))))
  have hb : (n == (-9223372036854775808 : Int)) = false := beq_eq_false_iff_ne.2 hmin
  by_cases hn : n < 0
  · have HL := Lib.hid (lim_neg h1 h2 hn)
    have HA := Lib.hid (show (-n).toNat = n.natAbs by omega)
    have h1' : -9223372036854775808 < n := by omega
    clear hmin
    go_enter Tryz.func50, Tryz.ntmps50
    go_wp2_with fail
    (with_reducible refine (spec_NatOf (-n) _ (by omega) (by omega)).mono ?_); rintro e w1 ⟨r1, rfl, o1, b1⟩; obtain ⟨hc1, hf1⟩ := bxcell b1; have q1_0 := fun o => hc1 (w.heap.size) o (by first | omega | (simp; done) | (simp; omega)); have f1_0 := fun o => hf1 (w.heap.size) o (by first | omega | (simp; done) | (simp; omega)); have hz1 := b1.size; (try simp at hz1); have z1_0 : w.heap.size < w1.heap.size := (by omega); have n1_0 := Nat.ne_of_lt z1_0; have m1_0 := (Nat.ne_of_lt z1_0).symm
    rw [HA.out] at o1
    have O1 := Lib.hid (o1.rebase (base' := w.heap.size + 1) (by first | omega | (simp; done) | (simp; omega)))
    clear o1
    go_wp2_with fail
    (with_reducible refine (spec_make true _ n.natAbs (w.heap.size + 1) _ O1.out (by first | omega | (simp; done) | (simp; omega))).mono ?_); rintro e w2 ⟨s2, A2, n2, c2, rfl, hs2, o2, b2⟩; obtain ⟨hc2, hf2⟩ := bxcell b2; have q2_0 := fun o => hc2 (w.heap.size) o (by first | omega | (simp; done) | (simp; omega)); have f2_0 := fun o => hf2 (w.heap.size) o (by first | omega | (simp; done) | (simp; omega)); have hz2 := b2.size; (try simp at hz2); have z2_0 : w.heap.size < w2.heap.size := (by omega); have n2_0 := Nat.ne_of_lt z2_0; have m2_0 := (Nat.ne_of_lt z2_0).symm
    rw [HL.out] at hs2 o2
    have HS2 := Lib.hid hs2
    have O2 := Lib.hid o2
    clear hs2 o2
    go_wp2
    exact bodyPost_ret (v := .agg #[.bool s2, .slice A2 n2 c2]) (by simp [results, Tryz.results50, go_sem, *]) rfl (ret_made rfl HS2.out (by refine Own.rebase (base := w.heap.size + 1) ?_ (by first | omega | (simp; done) | (simp; omega)); have this := O2.out; (try rw [List.nil_append] at this); repeat' (first | (with_reducible refine Own.far ?_ _ _ ?_) | (exact this) | (simp; done) | (simp; omega) | (simpa using this))) (by repeat' (first | (with_reducible exact Below.refl _ _) | (with_reducible refine Below.alloc ?_ ?_ _) | (with_reducible refine Below.setCell ?_ ?_ _) | (with_reducible refine below_drewN ?_ _) | (with_reducible refine Below.drew ?_) | (with_reducible refine below_step (by assumption) ?_ ?_) | omega | (simp; done) | (simp; omega))))
  · have HL := Lib.hid (lim_pos h1 h2 hn)
    have HA := Lib.hid (show n.toNat = n.natAbs by omega)
    clear hmin
    go_enter Tryz.func50, Tryz.ntmps50
    go_wp2_with fail
    (with_reducible refine (spec_NatOf n _ (by omega) (by omega)).mono ?_); rintro e w1 ⟨r1, rfl, o1, b1⟩; obtain ⟨hc1, hf1⟩ := bxcell b1; have q1_0 := fun o => hc1 (w.heap.size) o (by first | omega | (simp; done) | (simp; omega)); have f1_0 := fun o => hf1 (w.heap.size) o (by first | omega | (simp; done) | (simp; omega)); have hz1 := b1.size; (try simp at hz1); have z1_0 : w.heap.size < w1.heap.size := (by omega); have n1_0 := Nat.ne_of_lt z1_0; have m1_0 := (Nat.ne_of_lt z1_0).symm
    rw [HA.out] at o1
    have O1 := Lib.hid (o1.rebase (base' := w.heap.size + 1) (by first | omega | (simp; done) | (simp; omega)))
    clear o1
    go_wp2_with fail
    (with_reducible refine (spec_make false _ n.natAbs (w.heap.size + 1) _ O1.out (by first | omega | (simp; done) | (simp; omega))).mono ?_); rintro e w2 ⟨s2, A2, n2, c2, rfl, hs2, o2, b2⟩; obtain ⟨hc2, hf2⟩ := bxcell b2; have q2_0 := fun o => hc2 (w.heap.size) o (by first | omega | (simp; done) | (simp; omega)); have f2_0 := fun o => hf2 (w.heap.size) o (by first | omega | (simp; done) | (simp; omega)); have hz2 := b2.size; (try simp at hz2); have z2_0 : w.heap.size < w2.heap.size := (by omega); have n2_0 := Nat.ne_of_lt z2_0; have m2_0 := (Nat.ne_of_lt z2_0).symm
    rw [HL.out] at hs2 o2
    have HS2 := Lib.hid hs2
    have O2 := Lib.hid o2
    clear hs2 o2
    go_wp2
    exact bodyPost_ret (v := .agg #[.bool s2, .slice A2 n2 c2]) (by simp [results, Tryz.results50, go_sem, *]) rfl (ret_made rfl HS2.out (by refine Own.rebase (base := w.heap.size + 1) ?_ (by first | omega | (simp; done) | (simp; omega)); have this := O2.out; (try rw [List.nil_append] at this); repeat' (first | (with_reducible refine Own.far ?_ _ _ ?_) | (exact this) | (simp; done) | (simp; omega) | (simpa using this))) (by repeat' (first | (with_reducible exact Below.refl _ _) | (with_reducible refine Below.alloc ?_ ?_ _) | (with_reducible refine Below.setCell ?_ ?_ _) | (with_reducible refine below_drewN ?_ _) | (with_reducible refine Below.drew ?_) | (with_reducible refine below_step (by assumption) ?_ ?_) | omega | (simp; done) | (simp; omega))))
end Go.Proofs.YticekjagmcphbaaGreatDoor

namespace Go.Proofs.YticekjagmcphbaaGreatDoor
open Go.RowKit

theorem RetI.made {r : Int} {w w' : World} {en : Ending} (h : RetI r w en w') : RetZ r w en w' := by
  obtain ⟨A, n, c, e, o, b⟩ := h
  exact ⟨_, A, n, c, e, rfl, o, b⟩
theorem own_oneL {w : World} {g base e : Nat} (hg : g = w.heap.size) (hb : base ≤ w.heap.size) : Own (w.alloc (.cells #[.int .i64 1] e)) base e (.slice (some ⟨g, 0, none⟩) 1 1) (toL 1) := by
  subst hg
  rw [show toL 1 = [1] by rw [toL_pos (by omega), toL_zero]; rfl]
  exact own_one w 1 hb
theorem own_oneR {w : World} {g e : Nat} (hg : g = w.heap.size) : OwnR (w.alloc (.cells #[.int .i64 1] e)) g (g + 1) e (.slice (some ⟨g, 0, none⟩) 1 1) (toL 1) := by
  subst hg
  exact ⟨own_oneL rfl (Nat.le_refl _), fun k hk => by cases hk; exact Nat.lt_succ_self _⟩
theorem fromInt_len {n : Int} (h1 : -9223372036854775808 ≤ n) (h2 : n ≤ 9223372036854775807) : (toL n.natAbs).length ≤ 2000000 ∧ (toL 1).length ≤ 2000000 := by
  constructor
  · exact Nat.le_trans (toL_len_lt (k := 3) (by unfold pw; omega)) (by omega)
  · rw [toL_pos (by omega), toL_zero]
    simp



end Go.Proofs.YticekjagmcphbaaGreatDoor

namespace Go.Proofs.YticekjagmcphbaaGreatDoor
open Go.RowKit

theorem makeF_val {s t : Bool} {m l : Nat} (hx : bigOk s (toL m) = true) (hy : bigOk t (toL l) = true) : ratMakeF s t (toL m) (toL l) = ratF (s != t) m l := by
  unfold ratMakeF
  rw [hx, hy]
  simp only [dv_toL]
  rfl
theorem lt6 {m : Nat} (h : m < pw 60) : m < pw 150 := lt150 h (by omega)


set_option maxHeartbeats 4000000 in
theorem spec_RatMake (s t : Bool) (A B : Option Addr) (n c k d : Nat) (xs ys : List Int) (w : World) (hu : Sl w (.slice A n c) xs) (hv : Sl w (.slice B k d) ys) :
    Calls Tryz.prog 49 #[.agg #[.bool s, .slice A n c], .agg #[.bool t, .slice B k d]] w (RetQ (ratMakeF s t xs ys) w) := by
  have HU := Lib.hid hu
  have HV := Lib.hid hv
  clear hu hv
  have zz : w.heap.size < w.heap.size + 1 + 1 := by omega
  have nn := Nat.ne_of_lt zz
  have mm := (Nat.ne_of_lt zz).symm
  cases hx : bigOk s xs with
  | false =>
    have HR := Lib.hid (show ratMakeF s t xs ys = (0, 0) by unfold ratMakeF; rw [hx]; rfl)
    go_enter Tryz.func49, Tryz.ntmps49
    go_wp2_with fail
    (with_reducible refine (spec_BigIntOk s A n c xs _ (HU.out.below (by repeat' (first | (with_reducible exact Below.refl _ _) | (with_reducible refine Below.alloc ?_ ?_ _) | (with_reducible refine Below.setCell ?_ ?_ _) | (with_reducible refine below_drewN ?_ _) | (with_reducible refine Below.drew ?_) | (with_reducible refine below_step (by assumption) ?_ ?_) | omega | (simp; done) | (simp; omega))))).mono ?_); rintro e w1 ⟨rfl, b1⟩; obtain ⟨hc1, hf1⟩ := bxcell b1; have q1_0 := fun o => hc1 (w.heap.size) o (by first | omega | (simp; done) | (simp; omega)); have q1_1 := fun o => hc1 (w.heap.size + 1) o (by first | omega | (simp; done) | (simp; omega)); have q1_2 := fun o => hc1 (w.heap.size + 1 + 1) o (by first | omega | (simp; done) | (simp; omega)); have f1_0 := fun o => hf1 (w.heap.size) o (by first | omega | (simp; done) | (simp; omega)); have f1_1 := fun o => hf1 (w.heap.size + 1) o (by first | omega | (simp; done) | (simp; omega)); have f1_2 := fun o => hf1 (w.heap.size + 1 + 1) o (by first | omega | (simp; done) | (simp; omega)); have hz1 := b1.size; (try simp at hz1); have z1_0 : w.heap.size < w1.heap.size := (by omega); have n1_0 := Nat.ne_of_lt z1_0; have m1_0 := (Nat.ne_of_lt z1_0).symm; have z1_1 : w.heap.size + 1 < w1.heap.size := (by omega); have n1_1 := Nat.ne_of_lt z1_1; have m1_1 := (Nat.ne_of_lt z1_1).symm; have z1_2 : w.heap.size + 1 + 1 < w1.heap.size := (by omega); have n1_2 := Nat.ne_of_lt z1_2; have m1_2 := (Nat.ne_of_lt z1_2).symm
    rw [hx]
    go_wp2
    exact bodyPost_ret (v := .agg #[.bool false, .slice none 0 0, .slice none 0 0]) (by simp [results, Tryz.results49, go_sem, *]) rfl (retq_zero HR.out (by repeat' (first | (with_reducible exact Below.refl _ _) | (with_reducible refine Below.alloc ?_ ?_ _) | (with_reducible refine Below.setCell ?_ ?_ _) | (with_reducible refine below_drewN ?_ _) | (with_reducible refine Below.drew ?_) | (with_reducible refine below_step (by assumption) ?_ ?_) | omega | (simp; done) | (simp; omega))))
  | true =>
  cases hy : bigOk t ys with
  | false =>
    have HR := Lib.hid (show ratMakeF s t xs ys = (0, 0) by unfold ratMakeF; rw [hx, hy]; rfl)
    go_enter Tryz.func49, Tryz.ntmps49
    go_wp2_with fail
    (with_reducible refine (spec_BigIntOk s A n c xs _ (HU.out.below (by repeat' (first | (with_reducible exact Below.refl _ _) | (with_reducible refine Below.alloc ?_ ?_ _) | (with_reducible refine Below.setCell ?_ ?_ _) | (with_reducible refine below_drewN ?_ _) | (with_reducible refine Below.drew ?_) | (with_reducible refine below_step (by assumption) ?_ ?_) | omega | (simp; done) | (simp; omega))))).mono ?_); rintro e w1 ⟨rfl, b1⟩; obtain ⟨hc1, hf1⟩ := bxcell b1; have q1_0 := fun o => hc1 (w.heap.size) o (by first | omega | (simp; done) | (simp; omega)); have q1_1 := fun o => hc1 (w.heap.size + 1) o (by first | omega | (simp; done) | (simp; omega)); have q1_2 := fun o => hc1 (w.heap.size + 1 + 1) o (by first | omega | (simp; done) | (simp; omega)); have f1_0 := fun o => hf1 (w.heap.size) o (by first | omega | (simp; done) | (simp; omega)); have f1_1 := fun o => hf1 (w.heap.size + 1) o (by first | omega | (simp; done) | (simp; omega)); have f1_2 := fun o => hf1 (w.heap.size + 1 + 1) o (by first | omega | (simp; done) | (simp; omega)); have hz1 := b1.size; (try simp at hz1); have z1_0 : w.heap.size < w1.heap.size := (by omega); have n1_0 := Nat.ne_of_lt z1_0; have m1_0 := (Nat.ne_of_lt z1_0).symm; have z1_1 : w.heap.size + 1 < w1.heap.size := (by omega); have n1_1 := Nat.ne_of_lt z1_1; have m1_1 := (Nat.ne_of_lt z1_1).symm; have z1_2 : w.heap.size + 1 + 1 < w1.heap.size := (by omega); have n1_2 := Nat.ne_of_lt z1_2; have m1_2 := (Nat.ne_of_lt z1_2).symm
    rw [hx]
    go_wp2_with fail
    (with_reducible refine (spec_BigIntOk t B k d ys _ (HV.out.below (by repeat' (first | (with_reducible exact Below.refl _ _) | (with_reducible refine Below.alloc ?_ ?_ _) | (with_reducible refine Below.setCell ?_ ?_ _) | (with_reducible refine below_drewN ?_ _) | (with_reducible refine Below.drew ?_) | (with_reducible refine below_step (by assumption) ?_ ?_) | omega | (simp; done) | (simp; omega))))).mono ?_); rintro e w2 ⟨rfl, b2⟩; obtain ⟨hc2, hf2⟩ := bxcell b2; have q2_0 := fun o => hc2 (w.heap.size) o (by first | omega | (simp; done) | (simp; omega)); have q2_1 := fun o => hc2 (w.heap.size + 1) o (by first | omega | (simp; done) | (simp; omega)); have q2_2 := fun o => hc2 (w.heap.size + 1 + 1) o (by first | omega | (simp; done) | (simp; omega)); have f2_0 := fun o => hf2 (w.heap.size) o (by first | omega | (simp; done) | (simp; omega)); have f2_1 := fun o => hf2 (w.heap.size + 1) o (by first | omega | (simp; done) | (simp; omega)); have f2_2 := fun o => hf2 (w.heap.size + 1 + 1) o (by first | omega | (simp; done) | (simp; omega)); have hz2 := b2.size; (try simp at hz2); have z2_0 : w.heap.size < w2.heap.size := (by omega); have n2_0 := Nat.ne_of_lt z2_0; have m2_0 := (Nat.ne_of_lt z2_0).symm; have z2_1 : w.heap.size + 1 < w2.heap.size := (by omega); have n2_1 := Nat.ne_of_lt z2_1; have m2_1 := (Nat.ne_of_lt z2_1).symm; have z2_2 : w.heap.size + 1 + 1 < w2.heap.size := (by omega); have n2_2 := Nat.ne_of_lt z2_2; have m2_2 := (Nat.ne_of_lt z2_2).symm
    rw [hy]
    go_wp2
    exact bodyPost_ret (v := .agg #[.bool false, .slice none 0 0, .slice none 0 0]) (by simp [results, Tryz.results49, go_sem, *]) rfl (retq_zero HR.out (by repeat' (first | (with_reducible exact Below.refl _ _) | (with_reducible refine Below.alloc ?_ ?_ _) | (with_reducible refine Below.setCell ?_ ?_ _) | (with_reducible refine below_drewN ?_ _) | (with_reducible refine Below.drew ?_) | (with_reducible refine below_step (by assumption) ?_ ?_) | omega | (simp; done) | (simp; omega))))
  | true =>
    have HX := Lib.hid hx
    have HY := Lib.hid hy
    obtain ⟨m, rfl, hm, hs0⟩ := bigOk_iff hx
    obtain ⟨l, rfl, hl, ht0⟩ := bigOk_iff hy
    have HR := Lib.hid (makeF_val hx hy)
    have HM := Lib.hid (lt6 hm)
    have HL := Lib.hid (lt6 hl)
    clear hm hl hs0 ht0 hx hy
    go_enter Tryz.func49, Tryz.ntmps49
    go_wp2_with fail
    (with_reducible refine (spec_BigIntOk s A n c _ _ (HU.out.below (by repeat' (first | (with_reducible exact Below.refl _ _) | (with_reducible refine Below.alloc ?_ ?_ _) | (with_reducible refine Below.setCell ?_ ?_ _) | (with_reducible refine below_drewN ?_ _) | (with_reducible refine Below.drew ?_) | (with_reducible refine below_step (by assumption) ?_ ?_) | omega | (simp; done) | (simp; omega))))).mono ?_); rintro e w1 ⟨rfl, b1⟩; obtain ⟨hc1, hf1⟩ := bxcell b1; have q1_0 := fun o => hc1 (w.heap.size) o (by first | omega | (simp; done) | (simp; omega)); have q1_1 := fun o => hc1 (w.heap.size + 1) o (by first | omega | (simp; done) | (simp; omega)); have q1_2 := fun o => hc1 (w.heap.size + 1 + 1) o (by first | omega | (simp; done) | (simp; omega)); have f1_0 := fun o => hf1 (w.heap.size) o (by first | omega | (simp; done) | (simp; omega)); have f1_1 := fun o => hf1 (w.heap.size + 1) o (by first | omega | (simp; done) | (simp; omega)); have f1_2 := fun o => hf1 (w.heap.size + 1 + 1) o (by first | omega | (simp; done) | (simp; omega)); have hz1 := b1.size; (try simp at hz1); have z1_0 : w.heap.size < w1.heap.size := (by omega); have n1_0 := Nat.ne_of_lt z1_0; have m1_0 := (Nat.ne_of_lt z1_0).symm; have z1_1 : w.heap.size + 1 < w1.heap.size := (by omega); have n1_1 := Nat.ne_of_lt z1_1; have m1_1 := (Nat.ne_of_lt z1_1).symm; have z1_2 : w.heap.size + 1 + 1 < w1.heap.size := (by omega); have n1_2 := Nat.ne_of_lt z1_2; have m1_2 := (Nat.ne_of_lt z1_2).symm
    rw [HX.out]
    go_wp2_with fail
    (with_reducible refine (spec_BigIntOk t B k d _ _ (HV.out.below (by repeat' (first | (with_reducible exact Below.refl _ _) | (with_reducible refine Below.alloc ?_ ?_ _) | (with_reducible refine Below.setCell ?_ ?_ _) | (with_reducible refine below_drewN ?_ _) | (with_reducible refine Below.drew ?_) | (with_reducible refine below_step (by assumption) ?_ ?_) | omega | (simp; done) | (simp; omega))))).mono ?_); rintro e w2 ⟨rfl, b2⟩; obtain ⟨hc2, hf2⟩ := bxcell b2; have q2_0 := fun o => hc2 (w.heap.size) o (by first | omega | (simp; done) | (simp; omega)); have q2_1 := fun o => hc2 (w.heap.size + 1) o (by first | omega | (simp; done) | (simp; omega)); have q2_2 := fun o => hc2 (w.heap.size + 1 + 1) o (by first | omega | (simp; done) | (simp; omega)); have f2_0 := fun o => hf2 (w.heap.size) o (by first | omega | (simp; done) | (simp; omega)); have f2_1 := fun o => hf2 (w.heap.size + 1) o (by first | omega | (simp; done) | (simp; omega)); have f2_2 := fun o => hf2 (w.heap.size + 1 + 1) o (by first | omega | (simp; done) | (simp; omega)); have hz2 := b2.size; (try simp at hz2); have z2_0 : w.heap.size < w2.heap.size := (by omega); have n2_0 := Nat.ne_of_lt z2_0; have m2_0 := (Nat.ne_of_lt z2_0).symm; have z2_1 : w.heap.size + 1 < w2.heap.size := (by omega); have n2_1 := Nat.ne_of_lt z2_1; have m2_1 := (Nat.ne_of_lt z2_1).symm; have z2_2 : w.heap.size + 1 + 1 < w2.heap.size := (by omega); have n2_2 := Nat.ne_of_lt z2_2; have m2_2 := (Nat.ne_of_lt z2_2).symm
    rw [HY.out]
    go_wp2_with fail
    first
      | ((with_reducible refine (impl_makeG s t A B n c k d m l _ (HU.out.below (by repeat' (first | (with_reducible exact Below.refl _ _) | (with_reducible refine Below.alloc ?_ ?_ _) | (with_reducible refine Below.setCell ?_ ?_ _) | (with_reducible refine below_drewN ?_ _) | (with_reducible refine Below.drew ?_) | (with_reducible refine below_step (by assumption) ?_ ?_) | omega | (simp; done) | (simp; omega)))) (HV.out.below (by repeat' (first | (with_reducible exact Below.refl _ _) | (with_reducible refine Below.alloc ?_ ?_ _) | (with_reducible refine Below.setCell ?_ ?_ _) | (with_reducible refine below_drewN ?_ _) | (with_reducible refine Below.drew ?_) | (with_reducible refine below_step (by assumption) ?_ ?_) | omega | (simp; done) | (simp; omega)))) HM.out HL.out).mono ?_); rintro e w3 ⟨u3, A3, n3, c3, B3, k3, d3, rfl, hu3, o3, b3⟩; obtain ⟨hc3, hf3⟩ := bxcell b3; have q3_0 := fun o => hc3 (w.heap.size) o (by first | omega | (simp; done) | (simp; omega)); have q3_1 := fun o => hc3 (w.heap.size + 1) o (by first | omega | (simp; done) | (simp; omega)); have q3_2 := fun o => hc3 (w.heap.size + 1 + 1) o (by first | omega | (simp; done) | (simp; omega)); have f3_0 := fun o => hf3 (w.heap.size) o (by first | omega | (simp; done) | (simp; omega)); have f3_1 := fun o => hf3 (w.heap.size + 1) o (by first | omega | (simp; done) | (simp; omega)); have f3_2 := fun o => hf3 (w.heap.size + 1 + 1) o (by first | omega | (simp; done) | (simp; omega)); have hz3 := b3.size; (try simp at hz3); have z3_0 : w.heap.size < w3.heap.size := (by omega); have n3_0 := Nat.ne_of_lt z3_0; have m3_0 := (Nat.ne_of_lt z3_0).symm; have z3_1 : w.heap.size + 1 < w3.heap.size := (by omega); have n3_1 := Nat.ne_of_lt z3_1; have m3_1 := (Nat.ne_of_lt z3_1).symm; have z3_2 : w.heap.size + 1 + 1 < w3.heap.size := (by omega); have n3_2 := Nat.ne_of_lt z3_2; have m3_2 := (Nat.ne_of_lt z3_2).symm; have HU3 := Lib.hid hu3; have O3 := Lib.hid o3; clear hu3 o3
         go_wp2
         exact bodyPost_ret (v := .agg #[.bool u3, .slice A3 n3 c3, .slice B3 k3 d3]) (by simp [results, Tryz.results49, go_sem, *]) rfl (GiveQ.to HR.out HU3.out (PairR.wide (lo := w2.heap.size) (hi := w3.heap.size) ((by have hfar := O3.out; repeat' (first | (with_reducible exact hfar) | (with_reducible refine PairR.far ?_ _ _ ?_) | (with_reducible refine PairR.allocd ?_ _ ?_) | (left; first | omega | (simp; done) | (simp; omega)) | (right; first | omega | (simp; done) | (simp; omega)) | omega | (simp; done) | (simp; omega) | (exact hfar)))) (by first | omega | (simp; done) | (simp; omega)) (by first | omega | (simp; done) | (simp; omega))) (by repeat' (first | (with_reducible exact Below.refl _ _) | (with_reducible refine Below.alloc ?_ ?_ _) | (with_reducible refine Below.setCell ?_ ?_ _) | (with_reducible refine below_drewN ?_ _) | (with_reducible refine Below.drew ?_) | (with_reducible refine below_step (by assumption) ?_ ?_) | omega | (simp; done) | (simp; omega)))))
      | ((with_reducible refine (spec_lowG (!(s == t)) _ _ m l _ (HU.out.below (by repeat' (first | (with_reducible exact Below.refl _ _) | (with_reducible refine Below.alloc ?_ ?_ _) | (with_reducible refine Below.setCell ?_ ?_ _) | (with_reducible refine below_drewN ?_ _) | (with_reducible refine Below.drew ?_) | (with_reducible refine below_step (by assumption) ?_ ?_) | omega | (simp; done) | (simp; omega)))) (HV.out.below (by repeat' (first | (with_reducible exact Below.refl _ _) | (with_reducible refine Below.alloc ?_ ?_ _) | (with_reducible refine Below.setCell ?_ ?_ _) | (with_reducible refine below_drewN ?_ _) | (with_reducible refine Below.drew ?_) | (with_reducible refine below_step (by assumption) ?_ ?_) | omega | (simp; done) | (simp; omega)))) HM.out HL.out).mono ?_); rintro e w3 ⟨u3, A3, n3, c3, B3, k3, d3, rfl, hu3, o3, b3⟩; obtain ⟨hc3, hf3⟩ := bxcell b3; have q3_0 := fun o => hc3 (w.heap.size) o (by first | omega | (simp; done) | (simp; omega)); have q3_1 := fun o => hc3 (w.heap.size + 1) o (by first | omega | (simp; done) | (simp; omega)); have q3_2 := fun o => hc3 (w.heap.size + 1 + 1) o (by first | omega | (simp; done) | (simp; omega)); have f3_0 := fun o => hf3 (w.heap.size) o (by first | omega | (simp; done) | (simp; omega)); have f3_1 := fun o => hf3 (w.heap.size + 1) o (by first | omega | (simp; done) | (simp; omega)); have f3_2 := fun o => hf3 (w.heap.size + 1 + 1) o (by first | omega | (simp; done) | (simp; omega)); have hz3 := b3.size; (try simp at hz3); have z3_0 : w.heap.size < w3.heap.size := (by omega); have n3_0 := Nat.ne_of_lt z3_0; have m3_0 := (Nat.ne_of_lt z3_0).symm; have z3_1 : w.heap.size + 1 < w3.heap.size := (by omega); have n3_1 := Nat.ne_of_lt z3_1; have m3_1 := (Nat.ne_of_lt z3_1).symm; have z3_2 : w.heap.size + 1 + 1 < w3.heap.size := (by omega); have n3_2 := Nat.ne_of_lt z3_2; have m3_2 := (Nat.ne_of_lt z3_2).symm; have HU3 := Lib.hid hu3; have O3 := Lib.hid o3; clear hu3 o3
         go_wp2
         exact bodyPost_ret (v := .agg #[.bool u3, .slice A3 n3 c3, .slice B3 k3 d3]) (by simp [results, Tryz.results49, go_sem, *]) rfl (GiveQ.to (show _ = ratF (!(s == t)) m l from HR.out) HU3.out (PairR.wide (lo := w2.heap.size) (hi := w3.heap.size) ((by have hfar := O3.out; repeat' (first | (with_reducible exact hfar) | (with_reducible refine PairR.far ?_ _ _ ?_) | (with_reducible refine PairR.allocd ?_ _ ?_) | (left; first | omega | (simp; done) | (simp; omega)) | (right; first | omega | (simp; done) | (simp; omega)) | omega | (simp; done) | (simp; omega) | (exact hfar)))) (by first | omega | (simp; done) | (simp; omega)) (by first | omega | (simp; done) | (simp; omega))) (by repeat' (first | (with_reducible exact Below.refl _ _) | (with_reducible refine Below.alloc ?_ ?_ _) | (with_reducible refine Below.setCell ?_ ?_ _) | (with_reducible refine below_drewN ?_ _) | (with_reducible refine Below.drew ?_) | (with_reducible refine below_step (by assumption) ?_ ?_) | omega | (simp; done) | (simp; omega)))))

def ratOfF (n d : Int) : Int × Nat := ratF (decide (n < 0) != decide (d < 0)) n.natAbs d.natAbs
theorem ratOfF_len (n d : Int) : (toL (ratOfF n d).1.natAbs).length ≤ 2000000 ∧ (toL (ratOfF n d).2).length ≤ 2000000 := ratF_len _ _ _
theorem okOf {n : Int} (h1 : -9223372036854775808 ≤ n) (h2 : n ≤ 9223372036854775807) : bigOk (decide (n < 0)) (toL n.natAbs) = true := by
  unfold bigOk
  rw [okB_of_toL (int_lt h1 h2)]
  by_cases h : n < 0
  · rw [decide_eq_true h]
    have : 0 < (toL n.natAbs).length := toL_len_pos (by omega)
    simp
    exact fun e => by rw [e] at this; cases this
  · rw [decide_eq_false h]
    rfl
set_option maxHeartbeats 4000000 in
theorem spec_RatOf (n d : Int) (w : World) (h1 : -9223372036854775808 ≤ n) (h2 : n ≤ 9223372036854775807) (g1 : -9223372036854775808 ≤ d) (g2 : d ≤ 9223372036854775807) :
    Calls Tryz.prog 29 #[.int .i64 n, .int .i64 d] w (RetQ (ratOfF n d) w) := by
  have OA := Lib.hid (okOf h1 h2)
  have OD := Lib.hid (okOf g1 g2)
  go_enter Tryz.func29, Tryz.ntmps29
  go_wp2_with fail
  (with_reducible refine ((spec_BigIntOf n _ h1 h2).mono (fun _ _ h => RetI.made h)).mono ?_); rintro e w1 ⟨s1, A1, n1, c1, rfl, hs1, o1, b1⟩; obtain ⟨hc1, hf1⟩ := bxcell b1; have q1_0 := fun o => hc1 (w.heap.size) o (by first | omega | (simp; done) | (simp; omega)); have f1_0 := fun o => hf1 (w.heap.size) o (by first | omega | (simp; done) | (simp; omega)); have hz1 := b1.size; (try simp at hz1); have z1_0 : w.heap.size < w1.heap.size := (by omega); have n1_0 := Nat.ne_of_lt z1_0; have m1_0 := (Nat.ne_of_lt z1_0).symm; have HS1 := Lib.hid hs1; have O1 := Lib.hid (OwnR.of o1); clear hs1 o1
  go_wp2_with fail
  (with_reducible refine ((spec_BigIntOf d _ g1 g2).mono (fun _ _ h => RetI.made h)).mono ?_); rintro e w2 ⟨s2, A2, n2, c2, rfl, hs2, o2, b2⟩; obtain ⟨hc2, hf2⟩ := bxcell b2; have q2_0 := fun o => hc2 (w.heap.size) o (by first | omega | (simp; done) | (simp; omega)); have f2_0 := fun o => hf2 (w.heap.size) o (by first | omega | (simp; done) | (simp; omega)); have hz2 := b2.size; (try simp at hz2); have z2_0 : w.heap.size < w2.heap.size := (by omega); have n2_0 := Nat.ne_of_lt z2_0; have m2_0 := (Nat.ne_of_lt z2_0).symm; have HS2 := Lib.hid hs2; have O2 := Lib.hid (OwnR.of o2); clear hs2 o2
  go_wp2_with fail
  (with_reducible refine ((spec_RatMake s1 s2 A1 A2 _ c1 _ c2 (toL n.natAbs) (toL d.natAbs) _ (OwnR.here O1.out (by repeat' (first | (with_reducible exact Below.refl _ _) | (with_reducible refine Below.alloc ?_ ?_ _) | (with_reducible refine Below.setCell ?_ ?_ _) | (with_reducible refine below_drewN ?_ _) | (with_reducible refine Below.drew ?_) | (with_reducible refine below_step (by assumption) ?_ ?_) | omega | (simp; done) | (simp; omega)))).sl (OwnR.here O2.out (by repeat' (first | (with_reducible exact Below.refl _ _) | (with_reducible refine Below.alloc ?_ ?_ _) | (with_reducible refine Below.setCell ?_ ?_ _) | (with_reducible refine below_drewN ?_ _) | (with_reducible refine Below.drew ?_) | (with_reducible refine below_step (by assumption) ?_ ?_) | omega | (simp; done) | (simp; omega)))).sl).mono (fun _ _ h => RetQ.give h)).mono ?_); rintro e w3 ⟨u3, A3, n3, c3, B3, k3, d3, rfl, hu3, o3, b3⟩; obtain ⟨hc3, hf3⟩ := bxcell b3; have q3_0 := fun o => hc3 (w.heap.size) o (by first | omega | (simp; done) | (simp; omega)); have f3_0 := fun o => hf3 (w.heap.size) o (by first | omega | (simp; done) | (simp; omega)); have hz3 := b3.size; (try simp at hz3); have z3_0 : w.heap.size < w3.heap.size := (by omega); have n3_0 := Nat.ne_of_lt z3_0; have m3_0 := (Nat.ne_of_lt z3_0).symm; have HU3 := Lib.hid hu3; have O3 := Lib.hid o3; clear hu3 o3
  go_wp2
  exact bodyPost_ret (v := .agg #[.bool u3, .slice A3 n3 c3, .slice B3 k3 d3]) (by simp [results, Tryz.results29, go_sem, *]) rfl (GiveQ.to (by rw [HS1.out, HS2.out, makeF_val OA.out OD.out]; rfl) HU3.out (PairR.wide (lo := w2.heap.size) (hi := w3.heap.size) ((by have hfar := O3.out; repeat' (first | (with_reducible exact hfar) | (with_reducible refine PairR.far ?_ _ _ ?_) | (with_reducible refine PairR.allocd ?_ _ ?_) | (left; first | omega | (simp; done) | (simp; omega)) | (right; first | omega | (simp; done) | (simp; omega)) | omega | (simp; done) | (simp; omega) | (exact hfar)))) (by first | omega | (simp; done) | (simp; omega)) (by first | omega | (simp; done) | (simp; omega))) (by repeat' (first | (with_reducible exact Below.refl _ _) | (with_reducible refine Below.alloc ?_ ?_ _) | (with_reducible refine Below.setCell ?_ ?_ _) | (with_reducible refine below_drewN ?_ _) | (with_reducible refine Below.drew ?_) | (with_reducible refine below_step (by assumption) ?_ ?_) | omega | (simp; done) | (simp; omega))))
end Go.Proofs.YticekjagmcphbaaGreatDoor

namespace Go.Proofs.YticekjagmcphbaaGreatDoor
open Go.RowKit

/-- The slice value v reads, in the world w, as the list of strings xs. -/
def SlS (w : World) (v : Value) (xs : List ByteArray) : Prop :=
  ∃ A c, v = .slice A xs.length c ∧ xs.length ≤ c ∧ c ≤ maxLen ∧
    (0 < xs.length → ∃ b off, A = some ⟨b, off, none⟩ ∧ ∀ i d, xs[i]? = some d → w.cell? ⟨b, off + i, none⟩ = some (.string d))

/-- The slice value v is the call's own row (a block from 'base' on) of the strings xs. -/
def OwnS (w : World) (base : Nat) (e : TypeId) (v : Value) (xs : List ByteArray) : Prop := w.ownsRow base e 1 v xs.length (xs.map (Value.string))

section
variable {w w' : World} {v : Value} {xs : List ByteArray} {base e : Nat}

theorem SlS.keep (h : SlS w v xs) (hk : ∀ p : Addr, (∃ u, w.cell? p = some u) → w'.cell? p = w.cell? p) : SlS w' v xs := by
  obtain ⟨A, c, rfl, h1, h2, h3⟩ := h
  refine ⟨A, c, rfl, h1, h2, fun hn => ?_⟩
  obtain ⟨b, off, rfl, hc⟩ := h3 hn
  exact ⟨b, off, rfl, fun i d hd => (hk _ ⟨_, hc i d hd⟩).trans (hc i d hd)⟩
theorem SlS.below (h : SlS w v xs) (hb : Below w.heap.size w w') : SlS w' v xs :=
  h.keep fun p ⟨_, hu⟩ => hb.cell (World.block_lt_of_cell? w p hu)
theorem SlS.alloc (h : SlS w v xs) (o : Obj) : SlS (w.alloc o) v xs := h.below ((Below.refl _ _).alloc (Nat.le_refl _) o)
theorem SlS.drew (h : SlS w v xs) : SlS w.drew v xs := h
theorem SlS.drewN (h : SlS w v xs) (n : Nat) : SlS (w.drewN n) v xs := h
theorem SlS.grown {row : Option Nat} (h : SlS w v xs) (hg : w.grownBy w' row) (hne : ∀ b, v.ownBlock = some b → row ≠ some b) : SlS w' v xs := by
  obtain ⟨A, c, rfl, h1, h2, h3⟩ := h
  refine ⟨A, c, rfl, h1, h2, fun hn => ?_⟩
  obtain ⟨b, off, rfl, hc⟩ := h3 hn
  refine ⟨b, off, rfl, fun i d hd => hg.cell (hc i d hd) (fun e => hne b rfl e.symm)⟩
theorem OwnS.sl (h : OwnS w base e v xs) : SlS w v xs := by
  have hc := @World.ownsRow.cells w base e 1 v xs.length _ h
  rcases h.2 with ⟨rfl, h0⟩ | ⟨g, cap, cur, rfl, _, _, hn, hm, _⟩
  · rw [← h0]
    exact ⟨none, 0, by rw [← h0], by omega, by simp [maxLen], fun h => by omega⟩
  · refine ⟨_, _, rfl, hn, hm, fun _ => ⟨g, 0, rfl, fun i d hd => ?_⟩⟩
    have := hc (g := g) rfl i (.string d) (by simp [hd])
    have hadd : (⟨g, 0, none⟩ : Addr).add i = ⟨g, 0 + i, none⟩ := by unfold Addr.add; split <;> simp_all
    rwa [hadd] at this
theorem OwnS.below (h : OwnS w base e v xs) (hb : Below w.heap.size w w') : OwnS w' base e v xs := by
  have hg : w.grownBy w' none := ⟨hb.os, hb.tape, hb.output, hb.size, fun k hk _ => hb.block k hk⟩
  exact World.ownsRow.kept h hg (by cases hv : v.ownBlock <;> simp)
theorem OwnS.alloc (h : OwnS w base e v xs) (o : Obj) : OwnS (w.alloc o) base e v xs := World.ownsRow.alloc h o
theorem OwnS.grown {row : Option Nat} (h : OwnS w base e v xs) (hg : w.grownBy w' row) (hne : ∀ b, v.ownBlock = some b → row ≠ some b) : OwnS w' base e v xs :=
  World.ownsRow.kept h hg (by
    cases hv : v.ownBlock with
    | none => exact .inl rfl
    | some b => exact .inr (fun e => hne b hv e.symm))
theorem OwnS.nil (w : World) (base e : Nat) : OwnS w base e (.slice none 0 0) [] := World.ownsRow_nil _ _ _ _
theorem OwnS.lt (h : OwnS w base e v xs) : ∀ k, v.ownBlock = some k → base ≤ k ∧ k < w.heap.size := World.ownsRow.lt h
theorem OwnS.rebase {base' : Nat} (h : OwnS w base e v xs) (hb : base' ≤ base) : OwnS w base' e v xs :=
  ⟨h.1, h.2.elim Or.inl (fun ⟨g, cap, cur, hv, hg, r⟩ => Or.inr ⟨g, cap, cur, hv, Nat.le_trans hb hg, r⟩)⟩
end
/-- What a call that makes a new list of strings ends in. -/
def RetOwnS (e : TypeId) (xs : List ByteArray) (w : World) (en : Ending) (w' : World) : Prop := ∃ r, en = .returned r ∧ OwnS w' w.heap.size e r xs ∧ Below w.heap.size w w'

theorem Tryz.infoStr : (Tryz.prog.info? 9).map (fun i => (i.zero, i.size, i.bytes)) = some (some (.string ByteArray.empty), 1, 16) := by kernel_rfl

/-- The type t is a slice of the type e, and e is a string. -/
def StrP (P : Program) (t e : TypeId) : Prop := P.underlying t = some (.slice e) ∧ ∃ i, P.info? e = some i ∧ i.zero = some (.string ByteArray.empty) ∧ i.size = 1 ∧ i.bytes = 16
theorem Tryz.strP : StrP Tryz.prog 40 9 := by
  obtain ⟨i0, hi, hz0, hz1, hz2⟩ := info_parts Tryz.infoStr
  exact ⟨Tryz.underlying40, i0, hi, hz0, hz1, hz2⟩

theorem own_emptyS (w : World) {base e : Nat} (hb : base ≤ w.heap.size) : OwnS (w.alloc (.cells #[] e)) base e (.slice (some ⟨w.heap.size, 0, none⟩) 0 0) [] :=
  World.ownsRow_lit w #[] 0 hb (by simp [maxLen]) (by simp)
theorem own_oneS (w : World) {base e : Nat} (d : ByteArray) (hb : base ≤ w.heap.size) : OwnS (w.alloc (.cells #[.string d] e)) base e (.slice (some ⟨w.heap.size, 0, none⟩) 1 1) [d] :=
  World.ownsRow_lit w #[.string d] 1 hb (by simp [maxLen]) (by simp)

theorem OwnS.form {w : World} {base e : Nat} {v : Value} {xs : List ByteArray} (h : OwnS w base e v xs) :
    ∃ A c, v = .slice A xs.length c ∧ xs.length ≤ c ∧ c ≤ maxLen ∧ (0 < xs.length → ∃ g, A = some ⟨g, 0, none⟩ ∧ base ≤ g ∧ g < w.heap.size) := by
  rcases h.2 with ⟨rfl, h0⟩ | ⟨g, cap, cur, rfl, hb, hh, hn, hm, _⟩
  · exact ⟨none, 0, by rw [h0], by omega, by simp [maxLen], fun h => by omega⟩
  · exact ⟨_, cap, rfl, hn, hm, fun _ => ⟨g, rfl, hb, (Array.getElem?_eq_some_iff.1 hh).1⟩⟩

theorem wpList_app1S {P : Program} (w : World) {ops : Array Oper} {rest : List Oper} {o : Oper} {a : Act} {Q : Exit → Act → World → Prop} (hgd : o.guard = none) (s x : Operand) {t e : TypeId}
    (ho : o.op = .call { callee := .builtin .append, args := #[s, x], argTypes := #[t, t] }) (hP : StrP P t e) {base : Nat} {v : Value} {xs : List ByteArray} {d : ByteArray} (hown : OwnS w base e v xs)
    (hs : a.eval s = v) (hx : a.eval x = .slice (some ⟨w.heap.size, 0, none⟩) 1 1) (hlen : xs.length ≤ 1099511627776) (hbase : base ≤ w.heap.size)
    (h : ∀ v' w', OwnS w' base e v' (xs ++ [d]) → Below base w w' → w.grownBy w' v.ownBlock → wpList P ops Q rest (a.put o.dst v') w') :
    wpList P ops Q (o :: rest) a (w.alloc (.cells #[.string d] e)) := by
  obtain ⟨ht, i, hi, hz, hz1, hz2⟩ := hP
  refine wpList_append_own _ hgd s x t ho base e i (.string ByteArray.empty) 1 16 ht hi hz hz1 hz2 rfl (by decide) v xs.length (xs.map (Value.string)) hs (hown.alloc _) ⟨w.heap.size, 0, none⟩ 1 1 [.string d] hx rfl ?_ ?_ ?_ ?_ ?_ ?_
  · exact cell_one_new _ _ _
  · intro u hu
    simp at hu
    subst hu
    rfl
  · unfold maxLen; omega
  · omega
  · simp; omega
  · intro v' w' hown' hg _
    have hg2 : w.grownBy w' v.ownBlock := by
      have h1 := World.grownBy_alloc w (.cells #[.string d] e) v.ownBlock
      exact ⟨hg.os.trans h1.os, hg.tape.trans h1.tape, hg.output.trans h1.output, Nat.le_trans h1.size hg.size, fun k hk hne => (hg.block k (Nat.lt_of_lt_of_le hk h1.size) hne).trans (h1.block k hk hne)⟩
    refine h v' w' ?_ ?_ hg2
    · unfold OwnS
      simpa using hown'
    · exact (Below.refl base w).grown hg2 hbase (fun k hk => (hown.lt k hk).1)

/-- A shorter view of an own row. -/
theorem OwnS.cut {w : World} {base e c j : Nat} {A : Option Addr} {xs : List ByteArray} (h : OwnS w base e (.slice A xs.length c) xs) (hj : j ≤ xs.length) : OwnS w base e (.slice A j c) (xs.take j) := by
  have hl : (xs.take j).length = j := by rw [List.length_take]; omega
  unfold OwnS at h ⊢
  rw [hl]
  refine ⟨by simp; omega, ?_⟩
  rcases h.2 with ⟨hv, h0⟩ | ⟨g, cap, cur, hv, hg, hh, hn, hm, hs, ht⟩
  · left
    simp only [Value.slice.injEq] at hv
    obtain ⟨rfl, h1, rfl⟩ := hv
    have : j = 0 := by omega
    subst this
    exact ⟨rfl, rfl⟩
  · right
    simp only [Value.slice.injEq] at hv
    obtain ⟨rfl, _, rfl⟩ := hv
    refine ⟨g, c, cur, rfl, hg, hh, by omega, hm, hs, ?_⟩
    have h2 := congrArg (List.take (j * 1)) ht
    rw [List.take_take, ← List.map_take] at h2
    rw [show min (j * 1) (xs.length * 1) = j * 1 by omega, Nat.mul_one] at h2
    rw [Nat.mul_one, h2]
theorem SlS.cut {w : World} {c j : Nat} {A : Option Addr} {xs : List ByteArray} (h : SlS w (.slice A xs.length c) xs) (hj : j ≤ xs.length) : SlS w (.slice A j c) (xs.take j) := by
  obtain ⟨A', c', hv, h1, h2, h3⟩ := h
  simp only [Value.slice.injEq, true_and] at hv
  obtain ⟨rfl, rfl⟩ := hv
  have hl : (xs.take j).length = j := by rw [List.length_take]; omega
  refine ⟨A, c, by rw [hl], by omega, h2, fun hp => ?_⟩
  obtain ⟨b, off, rfl, hc⟩ := h3 (by omega)
  refine ⟨b, off, rfl, fun i d hd => hc i d ?_⟩
  rw [List.getElem?_take] at hd
  split at hd
  · exact hd
  · cases hd

/-- How the machine holds two strings against each other. -/
theorem str_eq {a b : ByteArray} (h : a = b) : (a.toList == b.toList) = true := by rw [h]; simp
theorem str_ne {a b : ByteArray} (h : ¬ a = b) : (a.toList == b.toList) = false := by
  rw [beq_eq_false_iff_ne]
  intro h1
  rw [ByteArray.toList_eq, ByteArray.toList_eq] at h1
  exact h (ByteArray.ext (Array.toList_inj.1 h1))
theorem list_neS {xs ys : List ByteArray} {k : Nat} {d f : ByteArray} (hd : xs[k]? = some d) (hf : ys[k]? = some f) (h : d ≠ f) : xs ≠ ys := by
  rintro rfl
  rw [hd] at hf
  exact h (Option.some.inj hf)
/-- The slice value v is a row of the call's own, of the strings xs, in a block from lo up to hi. -/
def OwnRS (w : World) (lo hi e : Nat) (v : Value) (xs : List ByteArray) : Prop := OwnS w lo e v xs ∧ ∀ k, v.ownBlock = some k → k < hi
section
variable {w w' : World} {v : Value} {xs : List ByteArray} {lo hi lo' hi' e : Nat}
theorem OwnRS.of (h : OwnS w lo e v xs) : OwnRS w lo w.heap.size e v xs := ⟨h, fun k hk => (h.lt k hk).2⟩
theorem OwnRS.sl (h : OwnRS w lo hi e v xs) : SlS w v xs := h.1.sl
theorem OwnRS.below (h : OwnRS w lo hi e v xs) {B : Nat} (hb : Below B w w') (hB : hi ≤ B) : OwnRS w' lo hi e v xs := by
  refine ⟨?_, h.2⟩
  refine ⟨h.1.1, ?_⟩
  rcases h.1.2 with hn | ⟨g, cap, cur, rfl, hbg, hh, r⟩
  · exact .inl hn
  · have hg := h.2 g rfl
    exact .inr ⟨g, cap, cur, rfl, hbg, by rw [hb.block g (by omega)]; exact hh, r⟩
theorem OwnRS.only (h : OwnRS w lo hi e v xs) (ho : Only lo' hi' w w') (hd : hi ≤ lo' ∨ hi' ≤ lo) : OwnRS w' lo hi e v xs := by
  refine ⟨?_, h.2⟩
  refine ⟨h.1.1, ?_⟩
  rcases h.1.2 with hn | ⟨g, cap, cur, rfl, hbg, hh, r⟩
  · exact .inl hn
  · have hg := h.2 g rfl
    exact .inr ⟨g, cap, cur, rfl, hbg, by rw [ho.block g (Array.getElem?_eq_some_iff.1 hh).1 (by omega)]; exact hh, r⟩
theorem OwnRS.use (h : OwnRS w lo hi e v xs) (hb : Below hi w w') : SlS w' v xs := (h.below hb (Nat.le_refl _)).sl
theorem OwnRS.here (h : OwnRS w lo hi e v xs) (hb : Below hi w w') : OwnRS w' lo hi e v xs := h.below hb (Nat.le_refl _)
theorem OwnRS.across {w'' : World} (h : OwnRS w lo hi e v xs) (hb : Below hi w w') (ho : Only lo' hi' w' w'') (hd : hi ≤ lo' ∨ hi' ≤ lo) : OwnRS w'' lo hi e v xs := (h.below hb (Nat.le_refl _)).only ho hd
theorem Only.of_grownS (h : OwnRS w lo hi e v xs) (hg : w.grownBy w' v.ownBlock) : Only lo hi w w' :=
  ⟨hg.os, hg.tape, hg.output, hg.size, fun k hk ho => hg.block k hk (fun he => by
    have h1 := (h.1.lt k he.symm).1
    have h2 := h.2 k he.symm
    omega)⟩
end
end Go.Proofs.YticekjagmcphbaaGreatDoor

namespace Go.Proofs.YticekjagmcphbaaGreatDoor
open Go.RowKit

/-- The digits of r, none of zero. -/
def dig0 (r : Nat) : List UInt8 := if r = 0 then [] else Lib.decDigits r
/-- The last digit of n, as a byte. -/
def dByte (n : Nat) : UInt8 := UInt8.ofNat (48 + n % 10)
theorem dig0_step {r : Nat} (h : 0 < r) : dig0 r = dig0 (r / 10) ++ [dByte r] := by
  unfold dig0 dByte
  rw [if_neg (by omega)]
  rcases Nat.lt_or_ge r 10 with h1 | h1
  · rw [dec_small h1, if_pos (by omega), show r % 10 = r by omega]
    rfl
  · rw [dec_big (by omega), if_neg (by omega)]
/-- The mark of a number. -/
def mtext (k : Nat) : ByteArray := ⟨(109 :: Lib.decDigits k).toArray⟩
theorem bytes_cat (a b : List UInt8) : (⟨a.toArray⟩ : ByteArray) ++ ⟨b.toArray⟩ = ⟨(a ++ b).toArray⟩ := by
  apply ByteArray.ext
  simp

/-- A string of one byte that was just laid. -/
theorem str_of_byte (w : World) (d : Int) (h0 : 0 ≤ d) (h1 : d ≤ 255) :
    (convert 22 9 (.slice (some ⟨w.heap.size, 0, none⟩) 1 1)).run Tryz.prog (w.alloc (.cells #[.int .u8 d] 5)) = .ok (.string ⟨[UInt8.ofNat d.toNat].toArray⟩) (w.alloc (.cells #[.int .u8 d] 5)) := by
  refine run_convert_bytes_back (P := Tryz.prog) _ 22 9 5 ⟨w.heap.size, 0, none⟩ 1 [UInt8.ofNat d.toNat] Tryz.underlying22 Tryz.underlying5 Tryz.underlying9 (fun j hj => ?_)
  have hj0 : j = 0 := by simpa using hj
  subst hj0
  have hc := cell_one_new w (.int .u8 d) 5 0 (.int .u8 d) rfl
  rw [hc]
  congr 2
  show d = ((UInt8.ofNat d.toNat).toNat : Int)
  rw [UInt8.toNat_ofNat_of_lt' (by simp [UInt8.size]; omega)]
  omega
theorem byte_of (n : Nat) : UInt8.ofNat ((48 : Int) + (n : Int) % 10).toNat = dByte n := by unfold dByte; congr 1

end Go.Proofs.YticekjagmcphbaaGreatDoor

namespace Go.Proofs.YticekjagmcphbaaGreatDoor
open Go.RowKit

theorem conv_byte (w : World) (g : Nat) (d : Int) (h0 : 0 ≤ d) (h1 : d ≤ 255) (hc : w.cell? ⟨g, 0, none⟩ = some (.int .u8 d)) :
    (convert 22 9 (.slice (some ⟨g, 0, none⟩) 1 1)).run Tryz.prog w = .ok (.string ⟨[UInt8.ofNat d.toNat].toArray⟩) w := by
  refine run_convert_bytes_back (P := Tryz.prog) _ 22 9 5 ⟨g, 0, none⟩ 1 [UInt8.ofNat d.toNat] Tryz.underlying22 Tryz.underlying5 Tryz.underlying9 (fun j hj => ?_)
  have hj0 : j = 0 := by simpa using hj
  subst hj0
  have ha : (⟨g, 0, none⟩ : Addr).add 0 = ⟨g, 0, none⟩ := by unfold Addr.add; split <;> simp_all
  rw [ha, hc]
  congr 2
  show d = ((UInt8.ofNat d.toNat).toNat : Int)
  rw [UInt8.toNat_ofNat_of_lt' (by simp [UInt8.size]; omega)]
  omega

theorem itoa_neg1 {n : Int} (h0 : n < 0) (h1 : -10 < n) : Lib.itoa n = 45 :: [UInt8.ofNat (48 - n).toNat] := by
  unfold Lib.itoa
  rw [if_pos h0, dec_small (by omega)]
  congr 3
  omega
theorem itoa_neg2 {n q r : Int} (h0 : n ≤ -10) (hq : n.tdiv 10 = q) (hr : n.tmod 10 = r) : Lib.itoa n = Lib.itoa q ++ [UInt8.ofNat (48 - r).toNat] ∧ q < 0 ∧ n < q ∧ -9 ≤ r ∧ r ≤ 0 := by
  obtain ⟨m, rfl⟩ : ∃ m : Nat, n = -(m : Int) := ⟨n.natAbs, by omega⟩
  have e1 : (-(m : Int)).tdiv 10 = -((m / 10 : Nat) : Int) := by rw [Int.neg_tdiv]; rfl
  have e2 : (-(m : Int)).tmod 10 = -((m % 10 : Nat) : Int) := by rw [Int.neg_tmod]; rfl
  rw [e1] at hq
  rw [e2] at hr
  subst hq hr
  refine ⟨?_, by omega, by omega, by omega, by omega⟩
  unfold Lib.itoa
  rw [if_pos (by omega), if_pos (by omega), show (-(m : Int)).natAbs = m by omega, show (-((m / 10 : Nat) : Int)).natAbs = m / 10 by omega, dec_big (n := m) (by omega), List.cons_append]
  congr 4
  omega
theorem itoa_pos {n : Int} (h : ¬ n < 0) : Lib.itoa n = Lib.decDigits n.toNat := by unfold Lib.itoa; rw [if_neg h]
theorem one_size (x : UInt8) : (⟨[x].toArray⟩ : ByteArray).size = 1 := rfl

/-- The table of powers of ten lies as its initialiser lays it. -/
def Tab (w : World) : Prop := Lib.TabIs Tryz.prog w "internal/strconv.uint64pow10" .u64 Lib.pow10Tab
theorem Tab.below {w w' : World} (h : Tab w) (hb : Below w.heap.size w w') : Tab w' := by
  unfold Tab Lib.TabIs World.var? at h ⊢
  cases hg : Tryz.prog.globalNamed "internal/strconv.uint64pow10" with
  | none => rw [hg] at h; simp at h
  | some g =>
    rw [hg] at h
    simp only [Option.bind_some] at h ⊢
    have hlt : g < w.heap.size := by
      rcases Nat.lt_or_ge g w.heap.size with h' | h'
      · exact h'
      · simp [Array.getElem?_eq_none h'] at h
    rw [hb.block g hlt]
    exact h
theorem below_grow (w : World) (k : Nat) (os : Array Obj) : Below w.heap.size w (Go.Sort.grow (w.drewN k) os) :=
  ⟨rfl, rfl, rfl, by first | (simp [Go.Sort.grow]; done) | (simp [Go.Sort.grow]; omega), fun i hi => by
    show ((w.drewN k).heap ++ os)[i]? = _
    rw [Array.getElem?_append_left (by show i < w.heap.size; omega)]
    rfl⟩
theorem impl_FormatInt (n : Int) (w : World) (h0 : -9223372036854775808 ≤ n) (h1 : n ≤ 9223372036854775807) (ht : Tab w) :
    Calls Tryz.prog 40 #[.int .i64 n] w fun e w' => e = .returned (.string ⟨(Lib.itoa n).toArray⟩) ∧ Below w.heap.size w w' := by
  have HT := Lib.hid ht
  clear ht
  go_enter Tryz.func40, Tryz.ntmps40
  go_wp2_with fail
  refine (Tryz.strconv_Itoa n h0 h1 _ HT.out).mono ?_
  rintro e w1 ⟨rfl, k, os, rfl⟩
  have hb := below_grow w k os
  generalize Go.Sort.grow (w.drewN k) os = w1 at *
  go_wp2
  go_ret
  exact ⟨rfl, hb⟩
end Go.Proofs.YticekjagmcphbaaGreatDoor

namespace Go.Proofs.YticekjagmcphbaaGreatDoor
open Go.RowKit

/-- The length of a string's value. -/
def strLen : Value → Nat
  | .string b => b.size
  | _ => 0
/-- Zeros ahead of s up to n places (none where n is over 2000). -/
def padF (s : ByteArray) (n : Int) : ByteArray := if 2000 < n then s else ⟨(padL n.toNat s.data.toList).toArray⟩
theorem padL_zero {n : Nat} {l : List UInt8} (h : n ≤ l.length) : padL n l = l := by unfold padL; rw [show n - l.length = 0 by omega]; rfl
theorem padL_more {n : Nat} {l : List UInt8} (h : l.length < n) : padL n (48 :: l) = padL n l := by
  unfold padL
  rw [List.length_cons, show n - l.length = (n - (l.length + 1)) + 1 by omega, List.replicate_succ', List.append_assoc]
  rfl
theorem pad_big {s : ByteArray} {n : Int} (h : 2000 < n) : padF s n = s := if_pos h
theorem pad_no {s : ByteArray} {n : Int} (h : n ≤ (s.size : Int)) : padF s n = s := by
  unfold padF
  split
  · rfl
  · rw [padL_zero (by rw [list_size]; omega)]
theorem repeat_zero (c : Nat) : Lib.repeatL [48] c = List.replicate c 48 := by
  induction c with
  | zero => rfl
  | succ c ih => rw [Lib.repeatL, ih, List.replicate_succ]; rfl
theorem pad_yes {s : ByteArray} {c : Nat} (h : ¬ 2000 < (c : Int) + (s.size : Int)) : padF s ((c : Int) + (s.size : Int)) = ⟨(Lib.repeatL [48] c).toArray⟩ ++ s := by
  unfold padF
  rw [if_neg h, repeat_zero]
  apply ByteArray.ext
  unfold padL
  rw [show ((c : Int) + (s.size : Int)).toNat - s.data.toList.length = c by rw [list_size]; omega]
  simp

set_option maxHeartbeats 1000000 in
theorem impl_PadZeros (s : ByteArray) (n : Int) (w : World) (hs : s.size ≤ 1048576) (h0 : -9223372036854775808 ≤ n) (h1 : n ≤ 9223372036854775807) :
    Calls Tryz.prog 41 #[.string s, .int .i64 n] w fun e w' => e = .returned (.string (padF s n)) ∧ Below w.heap.size w w' := by
  by_cases hb : 2000 < n
  · have HR := Lib.hid (pad_big (s := s) hb)
    go_enter Tryz.func41, Tryz.ntmps41
    go_wp2
    go_ret
    exact ⟨by rw [HR.out]; rfl, Below.refl _ _⟩
  by_cases hl : n ≤ (s.size : Int)
  · have HR := Lib.hid (pad_no hl)
    go_enter Tryz.func41, Tryz.ntmps41
    go_wp2
    go_ret
    exact ⟨by rw [HR.out]; rfl, Below.refl _ _⟩
  obtain ⟨c, hc⟩ : ∃ c : Nat, n = (c : Int) + (s.size : Int) := ⟨(n - s.size).toNat, by omega⟩
  subst hc
  have HR := Lib.hid (pad_yes hb)
  have hc1 : (c : Int) ≤ 2000 := by omega
  have hc0 : ¬ ((c : Int) ≤ 0) := by omega
  have HC := Lib.hid (Tryz.strings_Repeat ⟨#[48]⟩ c w (by omega) (by show 1 * c ≤ _; omega))
  have hsz : (⟨(Lib.repeatL [48] c).toArray⟩ : ByteArray).size = c := by
    show (Lib.repeatL [48] c).toArray.size = c
    rw [List.size_toArray, Lib.repeatL_length]
    simp
  obtain ⟨R, hR⟩ : ∃ R : ByteArray, R = ⟨(Lib.repeatL [48] c).toArray⟩ := ⟨_, rfl⟩
  rw [← hR] at hsz HR
  have HRR := Lib.hid hR
  clear hR
  go_enter Tryz.func41, Tryz.ntmps41
  go_wp2_with fail
  refine HC.out.mono ?_
  rintro e w1 ⟨rfl, b1⟩
  rw [show (⟨(Lib.repeatL (⟨#[48]⟩ : ByteArray).data.toList c).toArray⟩ : ByteArray) = R from HRR.out.symm]
  go_wp2
  go_ret
  exact ⟨by rw [HR.out]; rfl, b1⟩
end Go.Proofs.YticekjagmcphbaaGreatDoor

namespace Go.Proofs.YticekjagmcphbaaGreatDoor
open Go.RowKit

theorem impl_fmtI (n : Int) (w : World) (h0 : -9223372036854775808 ≤ n) (h1 : n ≤ 9223372036854775807) (ht : Tab w) :
    Calls Tryz.prog 40 #[.int .i64 n] w fun e w' => e = .returned (.string ⟨(Lib.itoa n).toArray⟩) ∧ Below w.heap.size w w' := impl_FormatInt n w h0 h1 ht
/-- The text of a natural number. -/
def decF (m : Nat) : ByteArray := ⟨(Lib.decDigits m).toArray⟩
/-- What FormatNat answers. -/
def fmtNatF (xs : List Int) : ByteArray := if okB xs = true then decF (val xs).toNat else ⟨#[]⟩
theorem fmtNat_no {xs : List Int} (h : okB xs = false) : fmtNatF xs = ⟨#[]⟩ := by unfold fmtNatF; rw [if_neg (by rw [h]; simp)]
theorem fmtNat_yes {m : Nat} (h : okB (toL m) = true) : fmtNatF (toL m) = decF m := by unfold fmtNatF; rw [if_pos h, val_toL, Int.toNat_natCast]
theorem itoa_limb (d : Nat) : Lib.itoa (d : Int) = Lib.decDigits d := Lib.itoa_nonneg d
theorem pw_ten (k : Nat) : pw k = 10 ^ (9 * k) := by
  unfold pw
  rw [show (1000000000 : Nat) = 10 ^ 9 by decide, ← Nat.pow_mul]
theorem dec_len_pw {m k : Nat} (h : m < pw k) (hk : 0 < k) : (Lib.decDigits m).length ≤ 9 * k := by
  rw [pw_ten] at h
  have := dec_len (k := 9 * k - 1) (n := m) (by rwa [show 9 * k - 1 + 1 = 9 * k by omega])
  omega
theorem dec_step {m j : Nat} (h : 0 < m / pw (j + 1)) : Lib.decDigits (m / pw j) = Lib.decDigits (m / pw (j + 1)) ++ padL 9 (Lib.decDigits (m / pw j % 1000000000)) := by
  have e : m / pw j = m / pw (j + 1) * 10 ^ (8 + 1) + m / pw j % 1000000000 := by
    rw [div_pw_succ, show (10 : Nat) ^ (8 + 1) = 1000000000 by decide]
    omega
  conv => lhs; rw [e]
  exact dec_pad h (by rw [show (10 : Nat) ^ (8 + 1) = 1000000000 by decide]; omega)
theorem padF_nine (l : List UInt8) : padF ⟨l.toArray⟩ 9 = ⟨(padL 9 l).toArray⟩ := by
  unfold padF
  rw [if_neg (by omega)]
  rfl
theorem top_pos {m : Nat} (h : 0 < m) : 0 < m / pw ((toL m).length - 1) := Nat.div_pos (toL_len_ge h) (pw_pos _)
theorem toL_len1 {m : Nat} (h : 0 < m) : 0 < (toL m).length := by rw [toL_pos h]; simp


set_option maxHeartbeats 4000000 in
theorem impl_FormatNat (v : Value) (xs : List Int) (w : World) (h : Sl w v xs) (ht : Tab w) :
    Calls Tryz.prog 21 #[v] w fun e w' => e = .returned (.string (fmtNatF xs)) ∧ Below w.heap.size w w' := by
  have HT := Lib.hid ht
  clear ht
  cases hx : okB xs with
  | false =>
    have HR := Lib.hid (fmtNat_no hx)
    go_enter Tryz.func21, Tryz.ntmps21
    go_wp2_with fail
    refine (impl_NatOk _ xs _ h).mono ?_
    rintro e w1 ⟨rfl, rfl⟩
    rw [hx]
    go_wp2
    go_ret
    exact ⟨by rw [HR.out]; rfl, Below.refl _ _⟩
  | true =>
  obtain ⟨m, rfl, hm⟩ := okB_toL hx
  have HX := Lib.hid hx
  have HR := Lib.hid (fmtNat_yes hx)
  have HS := Lib.hid h
  clear hx
  rcases Nat.eq_zero_or_pos m with h0 | h0
  · subst h0
    have HR0 : Hid (fmtNatF (toL 0) = ⟨#[48]⟩) := Lib.hid (by rw [HR.out]; unfold decF; rw [dec_small (by omega)]; rfl)
    have hl0 : (toL 0).length = 0 := by rw [toL_zero]; rfl
    obtain ⟨A, c, rfl, _, _, _⟩ := h
    rw [hl0] at HS ⊢
    clear hl0
    go_enter Tryz.func21, Tryz.ntmps21
    go_wp2_with fail
    refine (impl_NatOk _ (toL 0) _ HS.out).mono ?_
    rintro e w1 ⟨rfl, rfl⟩
    rw [HX.out]
    go_wp2
    go_ret
    exact ⟨by rw [HR0.out]; rfl, Below.refl _ _⟩
  · obtain ⟨A, c, rfl, h1, h2, h3⟩ := h
    have hl1 := toL_len1 h0
    have HTP := Lib.hid (top_pos h0)
    have HTD := Lib.hid (top_div (m := m))
    have HGX := Lib.hid (toL_at m)
    have hlm := toL_len_lt hm
    have hlt60 := dec_len_pw hm (by omega)
    have HLD := Lib.hid hlt60
    have HM := Lib.hid hm
    obtain ⟨n, hn⟩ : ∃ n, (toL m).length = n + 1 := ⟨(toL m).length - 1, by omega⟩
    rw [hn] at HTP HTD
    rw [Nat.add_sub_cancel] at HTP
    have HN := Lib.hid hn
    have hb : (((toL m).length : Int) == 0) = false := beq_eq_false_iff_ne.2 (by omega)
    obtain ⟨b, off, rfl, hc⟩ := h3 hl1
    have HC : Hid (∀ i, i ≤ n → w.cell? ⟨b, off + i, none⟩ = some (.int .i64 ((m / pw i % 1000000000 : Nat) : Int))) := Lib.hid (fun i hi => hc i _ (HGX.out i (by rw [HN.out]; omega)))
    have hbw := World.block_lt_of_cell? w _ (HC.out 0 (Nat.zero_le _))
    have hlz : ((toL m).length : Int) = (n : Int) + 1 := by omega
    have hn60 : (n : Int) ≤ 59 := by omega
    obtain ⟨d, hd⟩ : ∃ d : Int, d = ((m / pw n % 1000000000 : Nat) : Int) := ⟨_, rfl⟩
    have hcell := HC.out n (Nat.le_refl _)
    rw [← hd] at hcell
    have hd0 : 0 ≤ d ∧ d < 1000000000 := by rw [hd]; omega
    obtain ⟨hd1, hd2⟩ := hd0
    have HD : Hid (Lib.itoa d = Lib.decDigits (m / pw n)) := Lib.hid (by
      rw [hd, itoa_limb]
      congr 1
      refine Nat.mod_eq_of_lt ?_
      have h5 : m / pw n / 1000000000 = 0 := by rw [← div_pw_succ]; exact HTD.out
      omega)
    clear hc h3 hlm hlt60 hm hn hl1 h1 h2 hd
    go_enter Tryz.func21, Tryz.ntmps21
    go_wp2_with fail
    refine (impl_NatOk _ (toL m) _ HS.out).mono ?_
    rintro e w1 ⟨rfl, rfl⟩
    rw [HX.out]
    go_wp2_with fail
    refine (impl_fmtI d _ (by omega) (by omega) (HT.out.below (by repeat' (first | (with_reducible exact Below.refl _ _) | (with_reducible refine Below.alloc ?_ ?_ _) | (with_reducible refine Below.setCell ?_ ?_ _) | (with_reducible refine below_drewN ?_ _) | (with_reducible refine Below.drew ?_) | (with_reducible refine below_step (by assumption) ?_ ?_) | omega | (simp; done) | (simp; omega))))).mono ?_
    rintro e w2 ⟨rfl, b2⟩
    have z2 := b2.size
    rw [HD.out]
    go_wp2
    go_loopw [3, 4] (fun s i wr => ∃ (x : Int) (bs : ByteArray), i = .int .i64 x ∧ s = .string bs ∧ -1 ≤ x ∧ x < (n : Int) ∧ bs = ⟨(Lib.decDigits (m / pw (x + 1).toNat)).toArray⟩ ∧ Below w.heap.size w wr) (fun _ i _ => (intOf i + 1).toNat)
    case atStart => exact ⟨_, _, rfl, rfl, by omega, by omega, by rw [show ((n : Int) + 1 - 2 + 1).toNat = n by omega], (by repeat' (first | (with_reducible exact Below.refl _ _) | (with_reducible refine Below.alloc ?_ ?_ _) | (with_reducible refine Below.setCell ?_ ?_ _) | (with_reducible refine below_drewN ?_ _) | (with_reducible refine Below.drew ?_) | (with_reducible refine below_step (by assumption) ?_ ?_) | omega | (simp; done) | (simp; omega)))⟩
    case round =>
      obtain ⟨x, bs, rfl, rfl, hx1, hx2, hs, hbl⟩ := hrel
      have hbz := hbl.size
      have HBL := Lib.hid hbl
      by_cases hx : 0 ≤ x
      · obtain ⟨j, rfl⟩ := Int.eq_ofNat_of_zero_le hx
        rw [show ((j : Int) + 1).toNat = j + 1 by omega] at hs
        have hlt : j < n := by omega
        obtain ⟨f, hf⟩ : ∃ f : Int, f = ((m / pw j % 1000000000 : Nat) : Int) := ⟨_, rfl⟩
        have hcl := (hbl.cell (p := ⟨b, off + j, none⟩) hbw).trans (HC.out j (by omega))
        rw [← hf] at hcl
        have hf0 : 0 ≤ f ∧ f < 1000000000 := by rw [hf]; omega
        obtain ⟨hf1, hf2⟩ := hf0
        have hpos : 0 < m / pw (j + 1) := by
          have h7 := HTP.out
          have h8 : m / pw n ≤ m / pw (j + 1) := Nat.div_le_div_left (pw_le (by omega)) (pw_pos _)
          omega
        have HST := Lib.hid (dec_step hpos)
        have HF : Hid (Lib.itoa f = Lib.decDigits (m / pw j % 1000000000)) := Lib.hid (by rw [hf, itoa_limb])
        have hbs : bs.size ≤ 540 := by
          rw [hs]
          show (Lib.decDigits _).toArray.size ≤ 540
          rw [List.size_toArray]
          exact dec_len_pw (Nat.lt_of_le_of_lt (Nat.div_le_self _ _) HM.out) (by omega)
        have HB := Lib.hid hs
        clear hs hf hpos hbl
        go_wp2_with fail
        refine (impl_fmtI f _ (by omega) (by omega) (HT.out.below (by have := HBL.out; exact (by repeat' (first | (with_reducible exact Below.refl _ _) | (with_reducible refine Below.alloc ?_ ?_ _) | (with_reducible refine Below.setCell ?_ ?_ _) | (with_reducible refine below_drewN ?_ _) | (with_reducible refine Below.drew ?_) | (with_reducible refine below_step (by assumption) ?_ ?_) | omega | (simp; done) | (simp; omega)))))).mono ?_
        rintro e w3 ⟨rfl, b3⟩
        have z3 := b3.size
        have hil : (⟨(Lib.itoa f).toArray⟩ : ByteArray).size ≤ 21 := by
          show (Lib.itoa f).toArray.size ≤ 21
          rw [List.size_toArray]
          exact Lib.itoa_length_le f (by omega) (by omega)
        obtain ⟨X, hX⟩ : ∃ X : ByteArray, X = ⟨(Lib.itoa f).toArray⟩ := ⟨_, rfl⟩
        rw [← hX] at hil ⊢
        have HX2 := Lib.hid hX
        clear hX
        go_wp2_with fail
        refine (impl_PadZeros X 9 _ (by omega) (by omega) (by omega)).mono ?_
        rintro e w4 ⟨rfl, b4⟩
        have z4 := b4.size
        have HP : Hid (padF X 9 = ⟨(padL 9 (Lib.decDigits (m / pw j % 1000000000))).toArray⟩) := Lib.hid (by rw [HX2.out, padF_nine, HF.out])
        obtain ⟨Y, hY⟩ : ∃ Y : ByteArray, Y = padF X 9 := ⟨_, rfl⟩
        have hYs : Y.size ≤ 30 := by
          rw [hY, HX2.out, padF_nine]
          show (padL 9 (Lib.itoa f)).toArray.size ≤ 30
          have h9 := Lib.itoa_length_le f (by omega) (by omega)
          rw [List.size_toArray]
          unfold padL
          rw [List.length_append, List.length_replicate]
          omega
        rw [← hY] at HP ⊢
        clear hY
        go_wp2
        go_roundw
        case rel => exact ⟨(j : Int) - 1, _, rfl, rfl, by omega, by omega, by rw [show ((j : Int) - 1 + 1).toNat = j by omega, HB.out, HP.out, bytes_cat, HST.out], by have := HBL.out; exact (by repeat' (first | (with_reducible exact Below.refl _ _) | (with_reducible refine Below.alloc ?_ ?_ _) | (with_reducible refine Below.setCell ?_ ?_ _) | (with_reducible refine below_drewN ?_ _) | (with_reducible refine Below.drew ?_) | (with_reducible refine below_step (by assumption) ?_ ?_) | omega | (simp; done) | (simp; omega)))⟩
        case measure => simp [intOf]
      · have HB : Hid (bs = decF m) := Lib.hid (by rw [hs, show (x + 1).toNat = 0 by omega, pw_zero, Nat.div_one]; rfl)
        clear hs
        go_wp2
        go_ret
        exact ⟨by rw [HR.out, ← HB.out]; rfl, HBL.out⟩


end Go.Proofs.YticekjagmcphbaaGreatDoor

namespace Go.Proofs.YticekjagmcphbaaGreatDoor
open Go.RowKit

theorem bytes_size (l : List UInt8) : (⟨l.toArray⟩ : ByteArray).size = l.length := by
  show l.toArray.size = l.length
  exact List.size_toArray
theorem fmtNat_size (xs : List Int) : (fmtNatF xs).size ≤ 540 := by
  unfold fmtNatF
  split
  · rename_i h
    obtain ⟨m, rfl, hm⟩ := okB_toL h
    rw [val_toL, Int.toNat_natCast]
    unfold decF
    rw [bytes_size]
    exact dec_len_pw hm (by omega)
  · exact Nat.zero_le _
/-- What FormatBigInt answers. -/
def fmtBigF (s : Bool) (xs : List Int) : ByteArray := if bigOk s xs = true then (if s = true then ⟨#[45]⟩ ++ fmtNatF xs else fmtNatF xs) else ⟨#[]⟩
theorem fmtBig_no {s : Bool} {xs : List Int} (h : bigOk s xs = false) : fmtBigF s xs = ⟨#[]⟩ := by unfold fmtBigF; rw [if_neg (by rw [h]; simp)]
theorem fmtBig_neg {xs : List Int} (h : bigOk true xs = true) : fmtBigF true xs = ⟨#[45]⟩ ++ fmtNatF xs := by unfold fmtBigF; rw [if_pos h, if_pos rfl]
theorem fmtBig_pos {xs : List Int} (h : bigOk false xs = true) : fmtBigF false xs = fmtNatF xs := by unfold fmtBigF; rw [if_pos h, if_neg (by simp)]
theorem fmtBig_size (s : Bool) (xs : List Int) : (fmtBigF s xs).size ≤ 541 := by
  have h := fmtNat_size xs
  unfold fmtBigF
  split
  · split
    · have h1 : (⟨#[45]⟩ ++ fmtNatF xs : ByteArray).size = 1 + (fmtNatF xs).size := by rw [ByteArray.size_append]; rfl
      omega
    · omega
  · exact Nat.zero_le _


set_option maxHeartbeats 2000000 in
theorem impl_FormatBigInt (s : Bool) (A : Option Addr) (n c : Nat) (xs : List Int) (w : World) (h : Sl w (.slice A n c) xs) (ht : Tab w) :
    Calls Tryz.prog 20 #[.agg #[.bool s, .slice A n c]] w fun e w' => e = .returned (.string (fmtBigF s xs)) ∧ Below w.heap.size w w' := by
  have HS := Lib.hid h
  have HT := Lib.hid ht
  clear h ht
  cases hx : bigOk s xs with
  | false =>
    have HR := Lib.hid (fmtBig_no hx)
    go_enter Tryz.func20, Tryz.ntmps20
    go_wp2_with fail
    (with_reducible refine (impl_BigIntOk s A _ c xs _ (HS.out.below (by repeat' (first | (with_reducible exact Below.refl _ _) | (with_reducible refine Below.alloc ?_ ?_ _) | (with_reducible refine Below.setCell ?_ ?_ _) | (with_reducible refine below_drewN ?_ _) | (with_reducible refine Below.drew ?_) | (with_reducible refine below_step (by assumption) ?_ ?_) | omega | (simp; done) | (simp; omega))))).mono ?_); rintro e w1 ⟨rfl, b1⟩; obtain ⟨hc1, hf1⟩ := bxcell b1; have q1_0 := fun o => hc1 (w.heap.size) o (by first | omega | (simp; done) | (simp; omega)); have f1_0 := fun o => hf1 (w.heap.size) o (by first | omega | (simp; done) | (simp; omega)); have hz1 := b1.size; (try simp at hz1); have z1_0 : w.heap.size < w1.heap.size := (by omega); have n1_0 := Nat.ne_of_lt z1_0; have m1_0 := (Nat.ne_of_lt z1_0).symm
    rw [hx]
    go_wp2
    go_ret
    exact ⟨by rw [HR.out]; rfl, (by repeat' (first | (with_reducible exact Below.refl _ _) | (with_reducible refine Below.alloc ?_ ?_ _) | (with_reducible refine Below.setCell ?_ ?_ _) | (with_reducible refine below_drewN ?_ _) | (with_reducible refine Below.drew ?_) | (with_reducible refine below_step (by assumption) ?_ ?_) | omega | (simp; done) | (simp; omega)))⟩
  | true =>
    obtain ⟨F, hF⟩ : ∃ F, F = fmtNatF xs := ⟨_, rfl⟩
    have hFs : F.size ≤ 540 := by rw [hF]; exact fmtNat_size xs
    have HF := Lib.hid hF
    have HX := Lib.hid hx
    clear hF hx
    cases s with
    | true =>
      have HR := Lib.hid (fmtBig_neg HX.out)
      rw [← HF.out] at HR
      go_enter Tryz.func20, Tryz.ntmps20
      go_wp2_with fail
      (with_reducible refine (impl_BigIntOk true A _ c xs _ (HS.out.below (by repeat' (first | (with_reducible exact Below.refl _ _) | (with_reducible refine Below.alloc ?_ ?_ _) | (with_reducible refine Below.setCell ?_ ?_ _) | (with_reducible refine below_drewN ?_ _) | (with_reducible refine Below.drew ?_) | (with_reducible refine below_step (by assumption) ?_ ?_) | omega | (simp; done) | (simp; omega))))).mono ?_); rintro e w1 ⟨rfl, b1⟩; obtain ⟨hc1, hf1⟩ := bxcell b1; have q1_0 := fun o => hc1 (w.heap.size) o (by first | omega | (simp; done) | (simp; omega)); have f1_0 := fun o => hf1 (w.heap.size) o (by first | omega | (simp; done) | (simp; omega)); have hz1 := b1.size; (try simp at hz1); have z1_0 : w.heap.size < w1.heap.size := (by omega); have n1_0 := Nat.ne_of_lt z1_0; have m1_0 := (Nat.ne_of_lt z1_0).symm
      rw [HX.out]
      go_wp2_with fail
      (with_reducible refine (impl_FormatNat _ xs _ (HS.out.below (by repeat' (first | (with_reducible exact Below.refl _ _) | (with_reducible refine Below.alloc ?_ ?_ _) | (with_reducible refine Below.setCell ?_ ?_ _) | (with_reducible refine below_drewN ?_ _) | (with_reducible refine Below.drew ?_) | (with_reducible refine below_step (by assumption) ?_ ?_) | omega | (simp; done) | (simp; omega)))) (HT.out.below (by repeat' (first | (with_reducible exact Below.refl _ _) | (with_reducible refine Below.alloc ?_ ?_ _) | (with_reducible refine Below.setCell ?_ ?_ _) | (with_reducible refine below_drewN ?_ _) | (with_reducible refine Below.drew ?_) | (with_reducible refine below_step (by assumption) ?_ ?_) | omega | (simp; done) | (simp; omega))))).mono ?_); rintro e w2 ⟨rfl, b2⟩; obtain ⟨hc2, hf2⟩ := bxcell b2; have q2_0 := fun o => hc2 (w.heap.size) o (by first | omega | (simp; done) | (simp; omega)); have f2_0 := fun o => hf2 (w.heap.size) o (by first | omega | (simp; done) | (simp; omega)); have hz2 := b2.size; (try simp at hz2); have z2_0 : w.heap.size < w2.heap.size := (by omega); have n2_0 := Nat.ne_of_lt z2_0; have m2_0 := (Nat.ne_of_lt z2_0).symm
      rw [← HF.out]
      go_wp2
      go_ret
      exact ⟨by rw [HR.out]; rfl, (by repeat' (first | (with_reducible exact Below.refl _ _) | (with_reducible refine Below.alloc ?_ ?_ _) | (with_reducible refine Below.setCell ?_ ?_ _) | (with_reducible refine below_drewN ?_ _) | (with_reducible refine Below.drew ?_) | (with_reducible refine below_step (by assumption) ?_ ?_) | omega | (simp; done) | (simp; omega)))⟩
    | false =>
      have HR := Lib.hid (fmtBig_pos HX.out)
      rw [← HF.out] at HR
      go_enter Tryz.func20, Tryz.ntmps20
      go_wp2_with fail
      (with_reducible refine (impl_BigIntOk false A _ c xs _ (HS.out.below (by repeat' (first | (with_reducible exact Below.refl _ _) | (with_reducible refine Below.alloc ?_ ?_ _) | (with_reducible refine Below.setCell ?_ ?_ _) | (with_reducible refine below_drewN ?_ _) | (with_reducible refine Below.drew ?_) | (with_reducible refine below_step (by assumption) ?_ ?_) | omega | (simp; done) | (simp; omega))))).mono ?_); rintro e w1 ⟨rfl, b1⟩; obtain ⟨hc1, hf1⟩ := bxcell b1; have q1_0 := fun o => hc1 (w.heap.size) o (by first | omega | (simp; done) | (simp; omega)); have f1_0 := fun o => hf1 (w.heap.size) o (by first | omega | (simp; done) | (simp; omega)); have hz1 := b1.size; (try simp at hz1); have z1_0 : w.heap.size < w1.heap.size := (by omega); have n1_0 := Nat.ne_of_lt z1_0; have m1_0 := (Nat.ne_of_lt z1_0).symm
      rw [HX.out]
      go_wp2_with fail
      (with_reducible refine (impl_FormatNat _ xs _ (HS.out.below (by repeat' (first | (with_reducible exact Below.refl _ _) | (with_reducible refine Below.alloc ?_ ?_ _) | (with_reducible refine Below.setCell ?_ ?_ _) | (with_reducible refine below_drewN ?_ _) | (with_reducible refine Below.drew ?_) | (with_reducible refine below_step (by assumption) ?_ ?_) | omega | (simp; done) | (simp; omega)))) (HT.out.below (by repeat' (first | (with_reducible exact Below.refl _ _) | (with_reducible refine Below.alloc ?_ ?_ _) | (with_reducible refine Below.setCell ?_ ?_ _) | (with_reducible refine below_drewN ?_ _) | (with_reducible refine Below.drew ?_) | (with_reducible refine below_step (by assumption) ?_ ?_) | omega | (simp; done) | (simp; omega))))).mono ?_); rintro e w2 ⟨rfl, b2⟩; obtain ⟨hc2, hf2⟩ := bxcell b2; have q2_0 := fun o => hc2 (w.heap.size) o (by first | omega | (simp; done) | (simp; omega)); have f2_0 := fun o => hf2 (w.heap.size) o (by first | omega | (simp; done) | (simp; omega)); have hz2 := b2.size; (try simp at hz2); have z2_0 : w.heap.size < w2.heap.size := (by omega); have n2_0 := Nat.ne_of_lt z2_0; have m2_0 := (Nat.ne_of_lt z2_0).symm
      rw [← HF.out]
      go_wp2
      go_ret
      exact ⟨by rw [HR.out]; rfl, (by repeat' (first | (with_reducible exact Below.refl _ _) | (with_reducible refine Below.alloc ?_ ?_ _) | (with_reducible refine Below.setCell ?_ ?_ _) | (with_reducible refine below_drewN ?_ _) | (with_reducible refine Below.drew ?_) | (with_reducible refine below_step (by assumption) ?_ ?_) | omega | (simp; done) | (simp; omega)))⟩


/-- What FormatRat answers. -/
def fmtRatF (s : Bool) (xs ys : List Int) : ByteArray :=
  if ratOkB s xs ys = true then (if oneB (val ys).toNat = true then fmtBigF s xs else fmtBigF s xs ++ (⟨#[47]⟩ ++ fmtNatF ys)) else ⟨#[]⟩
theorem fmtRat_no {s : Bool} {xs ys : List Int} (h : ratOkB s xs ys = false) : fmtRatF s xs ys = ⟨#[]⟩ := by unfold fmtRatF; rw [if_neg (by rw [h]; simp)]
theorem fmtRat_one {s : Bool} {xs : List Int} {l : Nat} (h : ratOkB s xs (toL l) = true) (h1 : oneB l = true) : fmtRatF s xs (toL l) = fmtBigF s xs := by
  unfold fmtRatF
  rw [if_pos h, val_toL, Int.toNat_natCast, if_pos h1]
theorem fmtRat_more {s : Bool} {xs : List Int} {l : Nat} (h : ratOkB s xs (toL l) = true) (h1 : oneB l = false) : fmtRatF s xs (toL l) = fmtBigF s xs ++ (⟨#[47]⟩ ++ fmtNatF (toL l)) := by
  unfold fmtRatF
  rw [if_pos h, val_toL, Int.toNat_natCast, if_neg (by rw [h1]; simp)]
theorem ratOk_okB {s : Bool} {xs ys : List Int} (h : ratOkB s xs ys = true) : okB ys = true := by
  unfold ratOkB at h
  rw [Bool.and_eq_true, Bool.and_eq_true] at h
  exact h.2.1
theorem ratOk_den {s : Bool} {xs ys : List Int} (h : ratOkB s xs ys = true) : ∃ l, ys = toL l := by
  unfold ratOkB at h
  rw [Bool.and_eq_true, Bool.and_eq_true] at h
  obtain ⟨l, hl, _⟩ := okB_toL h.2.1
  exact ⟨l, hl⟩

set_option maxHeartbeats 4000000 in
theorem impl_FormatRat (s : Bool) (A B : Option Addr) (n c k d : Nat) (xs ys : List Int) (w : World) (hu : Sl w (.slice A n c) xs) (hv : Sl w (.slice B k d) ys) (ht : Tab w) :
    Calls Tryz.prog 6 #[.agg #[.bool s, .slice A n c, .slice B k d]] w fun e w' => e = .returned (.string (fmtRatF s xs ys)) ∧ Below w.heap.size w w' := by
  have HU := Lib.hid hu
  have HV := Lib.hid hv
  have HT := Lib.hid ht
  have hk := hv.len
  have hkm : k ≤ 9223372036854775807 := by
    obtain ⟨_, _, hv', p1, p2, _⟩ := hv
    cases hv'
    unfold maxLen at p2
    omega
  clear hu ht
  cases hx : ratOkB s xs ys with
  | false =>
    have HR := Lib.hid (fmtRat_no hx)
    clear hk hkm hv
    go_enter Tryz.func6, Tryz.ntmps6
    go_wp2_with fail
    (with_reducible refine (impl_RatOk s A B _ c _ d xs ys _ (HU.out.below (by repeat' (first | (with_reducible exact Below.refl _ _) | (with_reducible refine Below.alloc ?_ ?_ _) | (with_reducible refine Below.setCell ?_ ?_ _) | (with_reducible refine below_drewN ?_ _) | (with_reducible refine Below.drew ?_) | (with_reducible refine below_step (by assumption) ?_ ?_) | omega | (simp; done) | (simp; omega)))) (HV.out.below (by repeat' (first | (with_reducible exact Below.refl _ _) | (with_reducible refine Below.alloc ?_ ?_ _) | (with_reducible refine Below.setCell ?_ ?_ _) | (with_reducible refine below_drewN ?_ _) | (with_reducible refine Below.drew ?_) | (with_reducible refine below_step (by assumption) ?_ ?_) | omega | (simp; done) | (simp; omega))))).mono ?_); rintro e w1 ⟨rfl, b1⟩; obtain ⟨hc1, hf1⟩ := bxcell b1; have q1_0 := fun o => hc1 (w.heap.size) o (by first | omega | (simp; done) | (simp; omega)); have f1_0 := fun o => hf1 (w.heap.size) o (by first | omega | (simp; done) | (simp; omega)); have hz1 := b1.size; (try simp at hz1); have z1_0 : w.heap.size < w1.heap.size := (by omega); have n1_0 := Nat.ne_of_lt z1_0; have m1_0 := (Nat.ne_of_lt z1_0).symm
    rw [hx]
    go_wp2
    go_ret
    exact ⟨by rw [HR.out]; rfl, (by repeat' (first | (with_reducible exact Below.refl _ _) | (with_reducible refine Below.alloc ?_ ?_ _) | (with_reducible refine Below.setCell ?_ ?_ _) | (with_reducible refine below_drewN ?_ _) | (with_reducible refine Below.drew ?_) | (with_reducible refine below_step (by assumption) ?_ ?_) | omega | (simp; done) | (simp; omega)))⟩
  | true =>
    obtain ⟨l, rfl⟩ := ratOk_den hx
    obtain ⟨F, hF⟩ : ∃ F, F = fmtBigF s xs := ⟨_, rfl⟩
    have hFs : F.size ≤ 541 := by rw [hF]; exact fmtBig_size s xs
    have HF := Lib.hid hF
    obtain ⟨G, hG⟩ : ∃ G, G = fmtNatF (toL l) := ⟨_, rfl⟩
    have hGs : G.size ≤ 540 := by rw [hG]; exact fmtNat_size _
    have HG := Lib.hid hG
    have HX := Lib.hid hx
    clear hF hG hx
    rcases one_cases l with ⟨e1, e2⟩ | ⟨e1, e2⟩ | ⟨e1, dd, e2, e3⟩
    · have HR := Lib.hid (fmtRat_one HX.out e1)
      rw [← HF.out] at HR
      have hk1 : k = 1 := by rw [hk, e2]; rfl
      subst hk1
      have hv2 := hv
      rw [e2] at hv2
      obtain ⟨D, cd, hv3, p1, p2, p3⟩ := hv2
      simp only [Value.slice.injEq] at hv3
      obtain ⟨rfl, hq9, rfl⟩ := hv3
      clear hq9
      obtain ⟨bb, off, rfl, hcc⟩ := p3 (by simp)
      have hcw := hcc 0 1 rfl
      have hbw := World.block_lt_of_cell? w _ hcw
      clear hv p3 p1 p2 hcc e2 e1 hk hkm
      go_enter Tryz.func6, Tryz.ntmps6
      go_wp2_with fail
      (with_reducible refine (impl_RatOk s A _ _ c _ _ xs (toL l) _ (HU.out.below (by repeat' (first | (with_reducible exact Below.refl _ _) | (with_reducible refine Below.alloc ?_ ?_ _) | (with_reducible refine Below.setCell ?_ ?_ _) | (with_reducible refine below_drewN ?_ _) | (with_reducible refine Below.drew ?_) | (with_reducible refine below_step (by assumption) ?_ ?_) | omega | (simp; done) | (simp; omega)))) (HV.out.below (by repeat' (first | (with_reducible exact Below.refl _ _) | (with_reducible refine Below.alloc ?_ ?_ _) | (with_reducible refine Below.setCell ?_ ?_ _) | (with_reducible refine below_drewN ?_ _) | (with_reducible refine Below.drew ?_) | (with_reducible refine below_step (by assumption) ?_ ?_) | omega | (simp; done) | (simp; omega))))).mono ?_); rintro e w1 ⟨rfl, b1⟩; obtain ⟨hc1, hf1⟩ := bxcell b1; have q1_0 := fun o => hc1 (w.heap.size) o (by first | omega | (simp; done) | (simp; omega)); have f1_0 := fun o => hf1 (w.heap.size) o (by first | omega | (simp; done) | (simp; omega)); have hz1 := b1.size; (try simp at hz1); have z1_0 : w.heap.size < w1.heap.size := (by omega); have n1_0 := Nat.ne_of_lt z1_0; have m1_0 := (Nat.ne_of_lt z1_0).symm
      rw [HX.out]
      go_wp2_with fail
      (with_reducible refine (impl_FormatBigInt s A _ c xs _ (HU.out.below (by repeat' (first | (with_reducible exact Below.refl _ _) | (with_reducible refine Below.alloc ?_ ?_ _) | (with_reducible refine Below.setCell ?_ ?_ _) | (with_reducible refine below_drewN ?_ _) | (with_reducible refine Below.drew ?_) | (with_reducible refine below_step (by assumption) ?_ ?_) | omega | (simp; done) | (simp; omega)))) (HT.out.below (by repeat' (first | (with_reducible exact Below.refl _ _) | (with_reducible refine Below.alloc ?_ ?_ _) | (with_reducible refine Below.setCell ?_ ?_ _) | (with_reducible refine below_drewN ?_ _) | (with_reducible refine Below.drew ?_) | (with_reducible refine below_step (by assumption) ?_ ?_) | omega | (simp; done) | (simp; omega))))).mono ?_); rintro e w2 ⟨rfl, b2⟩; obtain ⟨hc2, hf2⟩ := bxcell b2; have q2_0 := fun o => hc2 (w.heap.size) o (by first | omega | (simp; done) | (simp; omega)); have f2_0 := fun o => hf2 (w.heap.size) o (by first | omega | (simp; done) | (simp; omega)); have hz2 := b2.size; (try simp at hz2); have z2_0 : w.heap.size < w2.heap.size := (by omega); have n2_0 := Nat.ne_of_lt z2_0; have m2_0 := (Nat.ne_of_lt z2_0).symm
      rw [← HF.out]
      have hcl : w2.cell? ⟨bb, off, none⟩ = some (.int .i64 1) := ((show Below w.heap.size w w2 from (by repeat' (first | (with_reducible exact Below.refl _ _) | (with_reducible refine Below.alloc ?_ ?_ _) | (with_reducible refine Below.setCell ?_ ?_ _) | (with_reducible refine below_drewN ?_ _) | (with_reducible refine Below.drew ?_) | (with_reducible refine below_step (by assumption) ?_ ?_) | omega | (simp; done) | (simp; omega)))).cell hbw).trans hcw
      go_wp2
      go_ret
      exact ⟨by rw [HR.out]; rfl, (by repeat' (first | (with_reducible exact Below.refl _ _) | (with_reducible refine Below.alloc ?_ ?_ _) | (with_reducible refine Below.setCell ?_ ?_ _) | (with_reducible refine below_drewN ?_ _) | (with_reducible refine Below.drew ?_) | (with_reducible refine below_step (by assumption) ?_ ?_) | omega | (simp; done) | (simp; omega)))⟩
    · have HR := Lib.hid (fmtRat_more HX.out e1)
      rw [← HF.out, ← HG.out] at HR
      rw [← hk] at e2
      have e4 : ((k : Int) != 1) = true := by rw [bne, e2]; rfl
      clear e2
      have hk60 : (k : Int) ≤ 60 := by rw [hk]; have := (okB_iff.1 (ratOk_okB HX.out)).1; omega
      clear hv e1 hk hkm
      go_enter Tryz.func6, Tryz.ntmps6
      go_wp2_with fail
      (with_reducible refine (impl_RatOk s A B _ c _ d xs (toL l) _ (HU.out.below (by repeat' (first | (with_reducible exact Below.refl _ _) | (with_reducible refine Below.alloc ?_ ?_ _) | (with_reducible refine Below.setCell ?_ ?_ _) | (with_reducible refine below_drewN ?_ _) | (with_reducible refine Below.drew ?_) | (with_reducible refine below_step (by assumption) ?_ ?_) | omega | (simp; done) | (simp; omega)))) (HV.out.below (by repeat' (first | (with_reducible exact Below.refl _ _) | (with_reducible refine Below.alloc ?_ ?_ _) | (with_reducible refine Below.setCell ?_ ?_ _) | (with_reducible refine below_drewN ?_ _) | (with_reducible refine Below.drew ?_) | (with_reducible refine below_step (by assumption) ?_ ?_) | omega | (simp; done) | (simp; omega))))).mono ?_); rintro e w1 ⟨rfl, b1⟩; obtain ⟨hc1, hf1⟩ := bxcell b1; have q1_0 := fun o => hc1 (w.heap.size) o (by first | omega | (simp; done) | (simp; omega)); have f1_0 := fun o => hf1 (w.heap.size) o (by first | omega | (simp; done) | (simp; omega)); have hz1 := b1.size; (try simp at hz1); have z1_0 : w.heap.size < w1.heap.size := (by omega); have n1_0 := Nat.ne_of_lt z1_0; have m1_0 := (Nat.ne_of_lt z1_0).symm
      rw [HX.out]
      go_wp2_with fail
      (with_reducible refine (impl_FormatBigInt s A _ c xs _ (HU.out.below (by repeat' (first | (with_reducible exact Below.refl _ _) | (with_reducible refine Below.alloc ?_ ?_ _) | (with_reducible refine Below.setCell ?_ ?_ _) | (with_reducible refine below_drewN ?_ _) | (with_reducible refine Below.drew ?_) | (with_reducible refine below_step (by assumption) ?_ ?_) | omega | (simp; done) | (simp; omega)))) (HT.out.below (by repeat' (first | (with_reducible exact Below.refl _ _) | (with_reducible refine Below.alloc ?_ ?_ _) | (with_reducible refine Below.setCell ?_ ?_ _) | (with_reducible refine below_drewN ?_ _) | (with_reducible refine Below.drew ?_) | (with_reducible refine below_step (by assumption) ?_ ?_) | omega | (simp; done) | (simp; omega))))).mono ?_); rintro e w2 ⟨rfl, b2⟩; obtain ⟨hc2, hf2⟩ := bxcell b2; have q2_0 := fun o => hc2 (w.heap.size) o (by first | omega | (simp; done) | (simp; omega)); have f2_0 := fun o => hf2 (w.heap.size) o (by first | omega | (simp; done) | (simp; omega)); have hz2 := b2.size; (try simp at hz2); have z2_0 : w.heap.size < w2.heap.size := (by omega); have n2_0 := Nat.ne_of_lt z2_0; have m2_0 := (Nat.ne_of_lt z2_0).symm
      rw [← HF.out]
      go_wp2_with fail
      (with_reducible refine (impl_FormatNat _ (toL l) _ (HV.out.below (by repeat' (first | (with_reducible exact Below.refl _ _) | (with_reducible refine Below.alloc ?_ ?_ _) | (with_reducible refine Below.setCell ?_ ?_ _) | (with_reducible refine below_drewN ?_ _) | (with_reducible refine Below.drew ?_) | (with_reducible refine below_step (by assumption) ?_ ?_) | omega | (simp; done) | (simp; omega)))) (HT.out.below (by repeat' (first | (with_reducible exact Below.refl _ _) | (with_reducible refine Below.alloc ?_ ?_ _) | (with_reducible refine Below.setCell ?_ ?_ _) | (with_reducible refine below_drewN ?_ _) | (with_reducible refine Below.drew ?_) | (with_reducible refine below_step (by assumption) ?_ ?_) | omega | (simp; done) | (simp; omega))))).mono ?_); rintro e w3 ⟨rfl, b3⟩; obtain ⟨hc3, hf3⟩ := bxcell b3; have q3_0 := fun o => hc3 (w.heap.size) o (by first | omega | (simp; done) | (simp; omega)); have f3_0 := fun o => hf3 (w.heap.size) o (by first | omega | (simp; done) | (simp; omega)); have hz3 := b3.size; (try simp at hz3); have z3_0 : w.heap.size < w3.heap.size := (by omega); have n3_0 := Nat.ne_of_lt z3_0; have m3_0 := (Nat.ne_of_lt z3_0).symm
      rw [← HG.out]
      go_wp2
      go_ret
      exact ⟨by rw [HR.out]; rfl, (by repeat' (first | (with_reducible exact Below.refl _ _) | (with_reducible refine Below.alloc ?_ ?_ _) | (with_reducible refine Below.setCell ?_ ?_ _) | (with_reducible refine below_drewN ?_ _) | (with_reducible refine Below.drew ?_) | (with_reducible refine below_step (by assumption) ?_ ?_) | omega | (simp; done) | (simp; omega)))⟩
    · have HR := Lib.hid (fmtRat_more HX.out e1)
      have e4 : (dd != (1 : Int)) = true := by rw [bne, e3]; rfl
      clear e3
      rw [← HF.out, ← HG.out] at HR
      have hk1 : k = 1 := by rw [hk, e2]; rfl
      subst hk1
      have hv2 := hv
      rw [e2] at hv2
      obtain ⟨D, cd, hv3, p1, p2, p3⟩ := hv2
      simp only [Value.slice.injEq] at hv3
      obtain ⟨rfl, hq9, rfl⟩ := hv3
      clear hq9
      obtain ⟨bb, off, rfl, hcc⟩ := p3 (by simp)
      have hcw := hcc 0 dd rfl
      have hbw := World.block_lt_of_cell? w _ hcw
      clear hv p3 p1 p2 hcc e2 e1 hk hkm
      go_enter Tryz.func6, Tryz.ntmps6
      go_wp2_with fail
      (with_reducible refine (impl_RatOk s A _ _ c _ _ xs (toL l) _ (HU.out.below (by repeat' (first | (with_reducible exact Below.refl _ _) | (with_reducible refine Below.alloc ?_ ?_ _) | (with_reducible refine Below.setCell ?_ ?_ _) | (with_reducible refine below_drewN ?_ _) | (with_reducible refine Below.drew ?_) | (with_reducible refine below_step (by assumption) ?_ ?_) | omega | (simp; done) | (simp; omega)))) (HV.out.below (by repeat' (first | (with_reducible exact Below.refl _ _) | (with_reducible refine Below.alloc ?_ ?_ _) | (with_reducible refine Below.setCell ?_ ?_ _) | (with_reducible refine below_drewN ?_ _) | (with_reducible refine Below.drew ?_) | (with_reducible refine below_step (by assumption) ?_ ?_) | omega | (simp; done) | (simp; omega))))).mono ?_); rintro e w1 ⟨rfl, b1⟩; obtain ⟨hc1, hf1⟩ := bxcell b1; have q1_0 := fun o => hc1 (w.heap.size) o (by first | omega | (simp; done) | (simp; omega)); have f1_0 := fun o => hf1 (w.heap.size) o (by first | omega | (simp; done) | (simp; omega)); have hz1 := b1.size; (try simp at hz1); have z1_0 : w.heap.size < w1.heap.size := (by omega); have n1_0 := Nat.ne_of_lt z1_0; have m1_0 := (Nat.ne_of_lt z1_0).symm
      rw [HX.out]
      go_wp2_with fail
      (with_reducible refine (impl_FormatBigInt s A _ c xs _ (HU.out.below (by repeat' (first | (with_reducible exact Below.refl _ _) | (with_reducible refine Below.alloc ?_ ?_ _) | (with_reducible refine Below.setCell ?_ ?_ _) | (with_reducible refine below_drewN ?_ _) | (with_reducible refine Below.drew ?_) | (with_reducible refine below_step (by assumption) ?_ ?_) | omega | (simp; done) | (simp; omega)))) (HT.out.below (by repeat' (first | (with_reducible exact Below.refl _ _) | (with_reducible refine Below.alloc ?_ ?_ _) | (with_reducible refine Below.setCell ?_ ?_ _) | (with_reducible refine below_drewN ?_ _) | (with_reducible refine Below.drew ?_) | (with_reducible refine below_step (by assumption) ?_ ?_) | omega | (simp; done) | (simp; omega))))).mono ?_); rintro e w2 ⟨rfl, b2⟩; obtain ⟨hc2, hf2⟩ := bxcell b2; have q2_0 := fun o => hc2 (w.heap.size) o (by first | omega | (simp; done) | (simp; omega)); have f2_0 := fun o => hf2 (w.heap.size) o (by first | omega | (simp; done) | (simp; omega)); have hz2 := b2.size; (try simp at hz2); have z2_0 : w.heap.size < w2.heap.size := (by omega); have n2_0 := Nat.ne_of_lt z2_0; have m2_0 := (Nat.ne_of_lt z2_0).symm
      rw [← HF.out]
      have hcl : w2.cell? ⟨bb, off, none⟩ = some (.int .i64 dd) := ((show Below w.heap.size w w2 from (by repeat' (first | (with_reducible exact Below.refl _ _) | (with_reducible refine Below.alloc ?_ ?_ _) | (with_reducible refine Below.setCell ?_ ?_ _) | (with_reducible refine below_drewN ?_ _) | (with_reducible refine Below.drew ?_) | (with_reducible refine below_step (by assumption) ?_ ?_) | omega | (simp; done) | (simp; omega)))).cell hbw).trans hcw
      go_wp2_with fail
      (with_reducible refine (impl_FormatNat _ (toL l) _ (HV.out.below (by repeat' (first | (with_reducible exact Below.refl _ _) | (with_reducible refine Below.alloc ?_ ?_ _) | (with_reducible refine Below.setCell ?_ ?_ _) | (with_reducible refine below_drewN ?_ _) | (with_reducible refine Below.drew ?_) | (with_reducible refine below_step (by assumption) ?_ ?_) | omega | (simp; done) | (simp; omega)))) (HT.out.below (by repeat' (first | (with_reducible exact Below.refl _ _) | (with_reducible refine Below.alloc ?_ ?_ _) | (with_reducible refine Below.setCell ?_ ?_ _) | (with_reducible refine below_drewN ?_ _) | (with_reducible refine Below.drew ?_) | (with_reducible refine below_step (by assumption) ?_ ?_) | omega | (simp; done) | (simp; omega))))).mono ?_); rintro e w3 ⟨rfl, b3⟩; obtain ⟨hc3, hf3⟩ := bxcell b3; have q3_0 := fun o => hc3 (w.heap.size) o (by first | omega | (simp; done) | (simp; omega)); have f3_0 := fun o => hf3 (w.heap.size) o (by first | omega | (simp; done) | (simp; omega)); have hz3 := b3.size; (try simp at hz3); have z3_0 : w.heap.size < w3.heap.size := (by omega); have n3_0 := Nat.ne_of_lt z3_0; have m3_0 := (Nat.ne_of_lt z3_0).symm
      rw [← HG.out]
      go_wp2
      go_ret
      exact ⟨by rw [HR.out]; rfl, (by repeat' (first | (with_reducible exact Below.refl _ _) | (with_reducible refine Below.alloc ?_ ?_ _) | (with_reducible refine Below.setCell ?_ ?_ _) | (with_reducible refine below_drewN ?_ _) | (with_reducible refine Below.drew ?_) | (with_reducible refine below_step (by assumption) ?_ ?_) | omega | (simp; done) | (simp; omega)))⟩
end Go.Proofs.YticekjagmcphbaaGreatDoor

namespace Go.Proofs.YticekjagmcphbaaGreatDoor
open Go.RowKit

/-- Does s begin with a minus sign? -/
def minusB (s : ByteArray) : Bool := decide (s.data.toList.head? = some 45)
/-- What stands behind the sign. -/
def behindB (s : ByteArray) : ByteArray := if minusB s = true then s.extract 1 s.size else s
/-- What ParseBigInt answers. -/
def parseBigF (s : ByteArray) : Int × Bool :=
  if parseOk (behindB s) && !(minusB s && decide (numD (behindB s).data.toList = 0)) then (bigZ (minusB s) (numD (behindB s).data.toList), true) else (0, false)
theorem num_lt60 {s : ByteArray} (h : parseOk s = true) : numD s.data.toList < pw 60 := by
  have h1 := parse_len s
  rw [parse_yes h] at h1
  exact toL_len_le.1 h1
theorem bigZ_natAbs (b : Bool) (m : Nat) : (bigZ b m).natAbs = m := by
  unfold bigZ
  split <;> omega
theorem parseBig_len (s : ByteArray) : (toL (parseBigF s).1.natAbs).length ≤ 2000000 := by
  unfold parseBigF
  split
  · rename_i h
    rw [Bool.and_eq_true] at h
    rw [show ∀ x : Int × Bool, x.1 = x.1 from fun _ => rfl]
    show (toL (bigZ (minusB s) (numD (behindB s).data.toList)).natAbs).length ≤ 2000000
    rw [bigZ_natAbs]
    exact Nat.le_trans (toL_len_lt (num_lt60 h.1)) (by omega)
  · show (toL (0 : Int).natAbs).length ≤ 2000000
    rw [show (0 : Int).natAbs = 0 from rfl, toL_zero]
    simp
/-- A big int and a bool are handed back. -/
def RetZB (e : TypeId) (p : Int × Bool) (w : World) (en : Ending) (w' : World) : Prop :=
  ∃ A n c, en = .returned (.tuple #[.agg #[.bool (decide (p.1 < 0)), .slice A n c], .bool p.2]) ∧ Own w' w.heap.size e (.slice A n c) (toL p.1.natAbs) ∧ Below w.heap.size w w'
theorem retzb_no {e : TypeId} {p : Int × Bool} {w w' : World} (h : p = (0, false)) (b : Below w.heap.size w w') : RetZB e p w (.returned (.tuple #[.agg #[.bool false, .slice none 0 0], .bool false])) w' := by
  subst h
  refine ⟨none, 0, 0, rfl, ?_, b⟩
  rw [show ((0 : Int), false).1.natAbs = 0 from rfl, toL_zero]
  exact Own.nil _ _ _
theorem retzb_yes {e : TypeId} {p : Int × Bool} {z : Int} {u : Bool} {A : Option Addr} {n c : Nat} {w w' : World} (h : p = (z, true)) (hu : u = decide (z < 0)) (o : Own w' w.heap.size e (.slice A n c) (toL z.natAbs)) (b : Below w.heap.size w w') :
    RetZB e p w (.returned (.tuple #[.agg #[.bool u, .slice A n c], .bool true])) w' := by
  subst h hu
  exact ⟨A, n, c, rfl, o, b⟩
theorem pb_bad {s : ByteArray} (h : parseOk (behindB s) = false) : parseBigF s = (0, false) := by unfold parseBigF; rw [h]; rfl
theorem pb_zero {s : ByteArray} (h : minusB s = true) (h0 : numD (behindB s).data.toList = 0) : parseBigF s = (0, false) := by
  unfold parseBigF
  rw [h, h0]
  simp
theorem pb_good {s : ByteArray} (h : parseOk (behindB s) = true) (h0 : minusB s = true → numD (behindB s).data.toList ≠ 0) : parseBigF s = (bigZ (minusB s) (numD (behindB s).data.toList), true) := by
  unfold parseBigF
  rw [if_pos]
  rw [h, Bool.true_and, Bool.not_eq_true', Bool.and_eq_false_iff]
  cases hm : minusB s with
  | false => exact .inl rfl
  | true => exact .inr (decide_eq_false (h0 hm))
theorem parse_snd {s : ByteArray} : (parseNatF s).2 = parseOk s := by
  unfold parseNatF
  cases h : parseOk s <;> simp
theorem minus_none {s : ByteArray} (h : ¬ 0 < s.size) : minusB s = false := by
  refine decide_eq_false ?_
  rw [List.head?_eq_none_iff.2 (List.eq_nil_of_length_eq_zero (by rw [list_size]; omega))]
  simp
theorem minus_of {s : ByteArray} (h : 0 < s.size) : minusB s = ((s[0].toNat : Int) == 45) := by
  unfold minusB
  rw [head_of h]
  by_cases h1 : s[0] = 45
  · rw [h1]
    rfl
  · rw [decide_eq_false (by simpa using h1)]
    symm
    rw [beq_eq_false_iff_ne]
    intro h2
    exact h1 (UInt8.toNat_inj.1 (by rw [show (45 : UInt8).toNat = 45 from rfl]; omega))

set_option maxHeartbeats 4000000 in
theorem impl_ParseBigInt (s : ByteArray) (w : World) (hs : s.size ≤ 1048576) :
    Calls Tryz.prog 17 #[.string s] w (RetZB 3 (parseBigF s) w) := by
  have hcs : (∃ h : 0 < s.size, ((s[0].toNat : Int) == 45) = true) ∨ ((∃ h : 0 < s.size, ((s[0].toNat : Int) == 45) = false) ∨ ¬ 0 < s.size) := by
    by_cases h : 0 < s.size
    · cases h1 : ((s[0].toNat : Int) == 45)
      · exact .inr (.inl ⟨h, h1⟩)
      · exact .inl ⟨h, h1⟩
    · exact .inr (.inr h)
  rcases hcs with ⟨hp, h45⟩ | hcs
  · have hm : minusB s = true := by rw [minus_of hp, h45]
    have HBE : Hid (behindB s = s.extract 1 s.size) := Lib.hid (by unfold behindB; rw [if_pos hm])
    have HM := Lib.hid hm
    have HSZ : Hid ((s.extract 1 s.size).size ≤ maxLen) := Lib.hid (by rw [ByteArray.size_extract]; unfold maxLen; omega)
    clear hm
    cases hok : parseOk (s.extract 1 s.size) with
    | false =>
      have HR := Lib.hid (pb_bad (s := s) (by rw [HBE.out]; exact hok))
      have HF := Lib.hid (parse_no hok)
      clear hok
      go_enter Tryz.func17, Tryz.ntmps17
      go_wp2_with fail
      (with_reducible refine (impl_ParseNat _ _ HSZ.out).mono ?_); rintro e w1 ⟨r1, rfl, o1, b1⟩; obtain ⟨hc1, hf1⟩ := bxcell b1; have q1_0 := fun o => hc1 (w.heap.size) o (by first | omega | (simp; done) | (simp; omega)); have f1_0 := fun o => hf1 (w.heap.size) o (by first | omega | (simp; done) | (simp; omega)); have hz1 := b1.size; (try simp at hz1); have z1_0 : w.heap.size < w1.heap.size := (by omega); have n1_0 := Nat.ne_of_lt z1_0; have m1_0 := (Nat.ne_of_lt z1_0).symm
      rw [HF.out] at o1 ⊢
      have HO := Lib.hid o1
      clear o1
      go_wp2
      exact bodyPost_ret (v := .tuple #[.agg #[.bool false, .slice none 0 0], .bool false]) (by simp [results, Tryz.results17, go_sem, *]) rfl (retzb_no HR.out (by repeat' (first | (with_reducible exact Below.refl _ _) | (with_reducible refine Below.alloc ?_ ?_ _) | (with_reducible refine Below.setCell ?_ ?_ _) | (with_reducible refine below_drewN ?_ _) | (with_reducible refine Below.drew ?_) | (with_reducible refine below_step (by assumption) ?_ ?_) | omega | (simp; done) | (simp; omega))))
    | true =>
      have HF := Lib.hid (parse_yes hok)
      have HL := Lib.hid (num_lt60 hok)
      by_cases h0 : numD (s.extract 1 s.size).data.toList = 0
      · have HR := Lib.hid (pb_zero (s := s) HM.out (by rw [HBE.out]; exact h0))
        have HZ := Lib.hid h0
        clear hok h0
        go_enter Tryz.func17, Tryz.ntmps17
        go_wp2_with fail
        (with_reducible refine (impl_ParseNat _ _ HSZ.out).mono ?_); rintro e w1 ⟨r1, rfl, o1, b1⟩; obtain ⟨hc1, hf1⟩ := bxcell b1; have q1_0 := fun o => hc1 (w.heap.size) o (by first | omega | (simp; done) | (simp; omega)); have f1_0 := fun o => hf1 (w.heap.size) o (by first | omega | (simp; done) | (simp; omega)); have hz1 := b1.size; (try simp at hz1); have z1_0 : w.heap.size < w1.heap.size := (by omega); have n1_0 := Nat.ne_of_lt z1_0; have m1_0 := (Nat.ne_of_lt z1_0).symm
        rw [HF.out] at o1 ⊢
        have o1' := o1
        rw [show (toL (numD (s.extract 1 s.size).data.toList), true).1 = [] by rw [HZ.out, toL_zero]] at o1'
        obtain ⟨A, c, rfl, f1, f2, f3⟩ := o1'.form
        have HO := Lib.hid o1
        clear o1 o1' f1 f2 f3
        go_wp2
        exact bodyPost_ret (v := .tuple #[.agg #[.bool false, .slice none 0 0], .bool false]) (by simp [results, Tryz.results17, go_sem, *]) rfl (retzb_no HR.out (by repeat' (first | (with_reducible exact Below.refl _ _) | (with_reducible refine Below.alloc ?_ ?_ _) | (with_reducible refine Below.setCell ?_ ?_ _) | (with_reducible refine below_drewN ?_ _) | (with_reducible refine Below.drew ?_) | (with_reducible refine below_step (by assumption) ?_ ?_) | omega | (simp; done) | (simp; omega))))
      have HR := Lib.hid (pb_good (s := s) (by rw [HBE.out]; exact hok) (fun _ => by rw [HBE.out]; exact h0))
      have HNG := Lib.hid (bigZ_neg (s := true) (Nat.pos_of_ne_zero h0))
      have hlz : (((toL (numD (s.extract 1 s.size).data.toList)).length : Int) == 0) = false := beq_eq_false_iff_ne.2 (by have h9 := toL_pos (Nat.pos_of_ne_zero h0); have h8 := congrArg List.length h9; rw [List.length_cons] at h8; omega)
      clear h0
      rw [HBE.out, HM.out] at HR
      have hlb := toL_len_lt HL.out
      generalize numD (s.extract 1 s.size).data.toList = m at *
      have HAB := Lib.hid (bigZ_abs true m)
      have HLM := Lib.hid (limZ_small (s := true) HL.out)
      have hlb2 : ((toL m).length : Int) ≤ 60 := by omega
      clear hok hlb
      go_enter Tryz.func17, Tryz.ntmps17
      go_wp2_with fail
      (with_reducible refine (impl_ParseNat _ _ HSZ.out).mono ?_); rintro e w1 ⟨r1, rfl, o1, b1⟩; obtain ⟨hc1, hf1⟩ := bxcell b1; have q1_0 := fun o => hc1 (w.heap.size) o (by first | omega | (simp; done) | (simp; omega)); have f1_0 := fun o => hf1 (w.heap.size) o (by first | omega | (simp; done) | (simp; omega)); have hz1 := b1.size; (try simp at hz1); have z1_0 : w.heap.size < w1.heap.size := (by omega); have n1_0 := Nat.ne_of_lt z1_0; have m1_0 := (Nat.ne_of_lt z1_0).symm
      rw [HF.out] at o1 ⊢
      obtain ⟨A, c, hv1, f1, f2, f3⟩ := o1.form
      have hv2 : r1 = .slice A (toL m).length c := hv1
      subst hv2
      have HO := Lib.hid (show Own w1 (w.heap.size + 1) 3 (.slice A (toL m).length c) (toL m) from (by refine Own.rebase (base := w.heap.size + 1) ?_ (by first | omega | (simp; done) | (simp; omega)); have this := o1; (try rw [List.nil_append] at this); repeat' (first | (with_reducible refine Own.far ?_ _ _ ?_) | (exact this) | (simp; done) | (simp; omega) | (simpa using this))))
      clear o1 f1 f2 f3 hv1
      first
        | (skip
           go_wp2_with fail
           (with_reducible refine (impl_bigMake true _ m (w.heap.size + 1) _ HO.out).mono ?_); rintro e w2 ⟨u2, A2, n2, c2, rfl, hu2, o2, b2⟩; obtain ⟨hc2, hf2⟩ := bxcell b2; have q2_0 := fun o => hc2 (w.heap.size) o (by first | omega | (simp; done) | (simp; omega)); have f2_0 := fun o => hf2 (w.heap.size) o (by first | omega | (simp; done) | (simp; omega)); have hz2 := b2.size; (try simp at hz2); have z2_0 : w.heap.size < w2.heap.size := (by omega); have n2_0 := Nat.ne_of_lt z2_0; have m2_0 := (Nat.ne_of_lt z2_0).symm
           rw [HLM.out] at hu2 o2
           have HO2 := Lib.hid o2
           have HU2 := Lib.hid hu2
           clear o2 hu2
           go_wp2
           exact bodyPost_ret (v := .tuple #[.agg #[.bool u2, .slice A2 n2 c2], .bool true]) (by simp [results, Tryz.results17, go_sem, *]) rfl (retzb_yes HR.out HU2.out (by refine Own.rebase (base := w.heap.size + 1) ?_ (by first | omega | (simp; done) | (simp; omega)); have this := HO2.out; (try rw [List.nil_append] at this); repeat' (first | (with_reducible refine Own.far ?_ _ _ ?_) | (exact this) | (simp; done) | (simp; omega) | (simpa using this))) (by repeat' (first | (with_reducible exact Below.refl _ _) | (with_reducible refine Below.alloc ?_ ?_ _) | (with_reducible refine Below.setCell ?_ ?_ _) | (with_reducible refine below_drewN ?_ _) | (with_reducible refine Below.drew ?_) | (with_reducible refine below_step (by assumption) ?_ ?_) | omega | (simp; done) | (simp; omega)))))
        | (fail
           go_wp2
           exact bodyPost_ret (v := .tuple #[.agg #[.bool true, .slice A (toL m).length c], .bool true]) (by simp [results, Tryz.results17, go_sem, *]) rfl (retzb_yes HR.out HNG.out.symm (by rw [HAB.out]; exact (by refine Own.rebase (base := w.heap.size + 1) ?_ (by first | omega | (simp; done) | (simp; omega)); have this := HO.out; (try rw [List.nil_append] at this); repeat' (first | (with_reducible refine Own.far ?_ _ _ ?_) | (exact this) | (simp; done) | (simp; omega) | (simpa using this)))) (by repeat' (first | (with_reducible exact Below.refl _ _) | (with_reducible refine Below.alloc ?_ ?_ _) | (with_reducible refine Below.setCell ?_ ?_ _) | (with_reducible refine below_drewN ?_ _) | (with_reducible refine Below.drew ?_) | (with_reducible refine below_step (by assumption) ?_ ?_) | omega | (simp; done) | (simp; omega)))))
  · have hm : minusB s = false := by
      rcases hcs with ⟨hp, h45⟩ | hn
      · rw [minus_of hp, h45]
      · exact minus_none hn
    have HBE : Hid (behindB s = s) := Lib.hid (by unfold behindB; rw [if_neg (by rw [hm]; simp)])
    have HM := Lib.hid hm
    have HSZ : Hid (s.size ≤ maxLen) := Lib.hid (by unfold maxLen; omega)
    clear hm
    rcases hcs with ⟨hp, h45⟩ | hn
    · cases hok : parseOk (s) with
      | false =>
        have HR := Lib.hid (pb_bad (s := s) (by rw [HBE.out]; exact hok))
        have HF := Lib.hid (parse_no hok)
        clear hok
        go_enter Tryz.func17, Tryz.ntmps17
        go_wp2_with fail
        (with_reducible refine (impl_ParseNat _ _ HSZ.out).mono ?_); rintro e w1 ⟨r1, rfl, o1, b1⟩; obtain ⟨hc1, hf1⟩ := bxcell b1; have q1_0 := fun o => hc1 (w.heap.size) o (by first | omega | (simp; done) | (simp; omega)); have f1_0 := fun o => hf1 (w.heap.size) o (by first | omega | (simp; done) | (simp; omega)); have hz1 := b1.size; (try simp at hz1); have z1_0 : w.heap.size < w1.heap.size := (by omega); have n1_0 := Nat.ne_of_lt z1_0; have m1_0 := (Nat.ne_of_lt z1_0).symm
        rw [HF.out] at o1 ⊢
        have HO := Lib.hid o1
        clear o1
        go_wp2
        exact bodyPost_ret (v := .tuple #[.agg #[.bool false, .slice none 0 0], .bool false]) (by simp [results, Tryz.results17, go_sem, *]) rfl (retzb_no HR.out (by repeat' (first | (with_reducible exact Below.refl _ _) | (with_reducible refine Below.alloc ?_ ?_ _) | (with_reducible refine Below.setCell ?_ ?_ _) | (with_reducible refine below_drewN ?_ _) | (with_reducible refine Below.drew ?_) | (with_reducible refine below_step (by assumption) ?_ ?_) | omega | (simp; done) | (simp; omega))))
      | true =>
        have HF := Lib.hid (parse_yes hok)
        have HL := Lib.hid (num_lt60 hok)
        have HR := Lib.hid (pb_good (s := s) (by rw [HBE.out]; exact hok) (fun h => by rw [HM.out] at h; cases h))
        have HNG := Lib.hid (show decide (bigZ false (numD (s).data.toList) < 0) = false by simp [bigZ])
        rw [HBE.out, HM.out] at HR
        have hlb := toL_len_lt HL.out
        generalize numD (s).data.toList = m at *
        have HAB := Lib.hid (bigZ_abs false m)
        have HLM := Lib.hid (limZ_small (s := false) HL.out)
        have hlb2 : ((toL m).length : Int) ≤ 60 := by omega
        clear hok hlb
        go_enter Tryz.func17, Tryz.ntmps17
        go_wp2_with fail
        (with_reducible refine (impl_ParseNat _ _ HSZ.out).mono ?_); rintro e w1 ⟨r1, rfl, o1, b1⟩; obtain ⟨hc1, hf1⟩ := bxcell b1; have q1_0 := fun o => hc1 (w.heap.size) o (by first | omega | (simp; done) | (simp; omega)); have f1_0 := fun o => hf1 (w.heap.size) o (by first | omega | (simp; done) | (simp; omega)); have hz1 := b1.size; (try simp at hz1); have z1_0 : w.heap.size < w1.heap.size := (by omega); have n1_0 := Nat.ne_of_lt z1_0; have m1_0 := (Nat.ne_of_lt z1_0).symm
        rw [HF.out] at o1 ⊢
        obtain ⟨A, c, hv1, f1, f2, f3⟩ := o1.form
        have hv2 : r1 = .slice A (toL m).length c := hv1
        subst hv2
        have HO := Lib.hid (show Own w1 (w.heap.size + 1) 3 (.slice A (toL m).length c) (toL m) from (by refine Own.rebase (base := w.heap.size + 1) ?_ (by first | omega | (simp; done) | (simp; omega)); have this := o1; (try rw [List.nil_append] at this); repeat' (first | (with_reducible refine Own.far ?_ _ _ ?_) | (exact this) | (simp; done) | (simp; omega) | (simpa using this))))
        clear o1 f1 f2 f3 hv1
        first
          | (skip
             go_wp2_with fail
             (with_reducible refine (impl_bigMake false _ m (w.heap.size + 1) _ HO.out).mono ?_); rintro e w2 ⟨u2, A2, n2, c2, rfl, hu2, o2, b2⟩; obtain ⟨hc2, hf2⟩ := bxcell b2; have q2_0 := fun o => hc2 (w.heap.size) o (by first | omega | (simp; done) | (simp; omega)); have f2_0 := fun o => hf2 (w.heap.size) o (by first | omega | (simp; done) | (simp; omega)); have hz2 := b2.size; (try simp at hz2); have z2_0 : w.heap.size < w2.heap.size := (by omega); have n2_0 := Nat.ne_of_lt z2_0; have m2_0 := (Nat.ne_of_lt z2_0).symm
             rw [HLM.out] at hu2 o2
             have HO2 := Lib.hid o2
             have HU2 := Lib.hid hu2
             clear o2 hu2
             go_wp2
             exact bodyPost_ret (v := .tuple #[.agg #[.bool u2, .slice A2 n2 c2], .bool true]) (by simp [results, Tryz.results17, go_sem, *]) rfl (retzb_yes HR.out HU2.out (by refine Own.rebase (base := w.heap.size + 1) ?_ (by first | omega | (simp; done) | (simp; omega)); have this := HO2.out; (try rw [List.nil_append] at this); repeat' (first | (with_reducible refine Own.far ?_ _ _ ?_) | (exact this) | (simp; done) | (simp; omega) | (simpa using this))) (by repeat' (first | (with_reducible exact Below.refl _ _) | (with_reducible refine Below.alloc ?_ ?_ _) | (with_reducible refine Below.setCell ?_ ?_ _) | (with_reducible refine below_drewN ?_ _) | (with_reducible refine Below.drew ?_) | (with_reducible refine below_step (by assumption) ?_ ?_) | omega | (simp; done) | (simp; omega)))))
          | (fail
             go_wp2
             exact bodyPost_ret (v := .tuple #[.agg #[.bool false, .slice A (toL m).length c], .bool true]) (by simp [results, Tryz.results17, go_sem, *]) rfl (retzb_yes HR.out HNG.out.symm (by rw [HAB.out]; exact (by refine Own.rebase (base := w.heap.size + 1) ?_ (by first | omega | (simp; done) | (simp; omega)); have this := HO.out; (try rw [List.nil_append] at this); repeat' (first | (with_reducible refine Own.far ?_ _ _ ?_) | (exact this) | (simp; done) | (simp; omega) | (simpa using this)))) (by repeat' (first | (with_reducible exact Below.refl _ _) | (with_reducible refine Below.alloc ?_ ?_ _) | (with_reducible refine Below.setCell ?_ ?_ _) | (with_reducible refine below_drewN ?_ _) | (with_reducible refine Below.drew ?_) | (with_reducible refine below_step (by assumption) ?_ ?_) | omega | (simp; done) | (simp; omega)))))
    · cases hok : parseOk (s) with
      | false =>
        have HR := Lib.hid (pb_bad (s := s) (by rw [HBE.out]; exact hok))
        have HF := Lib.hid (parse_no hok)
        clear hok
        go_enter Tryz.func17, Tryz.ntmps17
        go_wp2_with fail
        (with_reducible refine (impl_ParseNat _ _ HSZ.out).mono ?_); rintro e w1 ⟨r1, rfl, o1, b1⟩; obtain ⟨hc1, hf1⟩ := bxcell b1; have q1_0 := fun o => hc1 (w.heap.size) o (by first | omega | (simp; done) | (simp; omega)); have f1_0 := fun o => hf1 (w.heap.size) o (by first | omega | (simp; done) | (simp; omega)); have hz1 := b1.size; (try simp at hz1); have z1_0 : w.heap.size < w1.heap.size := (by omega); have n1_0 := Nat.ne_of_lt z1_0; have m1_0 := (Nat.ne_of_lt z1_0).symm
        rw [HF.out] at o1 ⊢
        have HO := Lib.hid o1
        clear o1
        go_wp2
        exact bodyPost_ret (v := .tuple #[.agg #[.bool false, .slice none 0 0], .bool false]) (by simp [results, Tryz.results17, go_sem, *]) rfl (retzb_no HR.out (by repeat' (first | (with_reducible exact Below.refl _ _) | (with_reducible refine Below.alloc ?_ ?_ _) | (with_reducible refine Below.setCell ?_ ?_ _) | (with_reducible refine below_drewN ?_ _) | (with_reducible refine Below.drew ?_) | (with_reducible refine below_step (by assumption) ?_ ?_) | omega | (simp; done) | (simp; omega))))
      | true =>
        have HF := Lib.hid (parse_yes hok)
        have HL := Lib.hid (num_lt60 hok)
        have HR := Lib.hid (pb_good (s := s) (by rw [HBE.out]; exact hok) (fun h => by rw [HM.out] at h; cases h))
        have HNG := Lib.hid (show decide (bigZ false (numD (s).data.toList) < 0) = false by simp [bigZ])
        rw [HBE.out, HM.out] at HR
        have hlb := toL_len_lt HL.out
        generalize numD (s).data.toList = m at *
        have HAB := Lib.hid (bigZ_abs false m)
        have HLM := Lib.hid (limZ_small (s := false) HL.out)
        have hlb2 : ((toL m).length : Int) ≤ 60 := by omega
        clear hok hlb
        go_enter Tryz.func17, Tryz.ntmps17
        go_wp2_with fail
        (with_reducible refine (impl_ParseNat _ _ HSZ.out).mono ?_); rintro e w1 ⟨r1, rfl, o1, b1⟩; obtain ⟨hc1, hf1⟩ := bxcell b1; have q1_0 := fun o => hc1 (w.heap.size) o (by first | omega | (simp; done) | (simp; omega)); have f1_0 := fun o => hf1 (w.heap.size) o (by first | omega | (simp; done) | (simp; omega)); have hz1 := b1.size; (try simp at hz1); have z1_0 : w.heap.size < w1.heap.size := (by omega); have n1_0 := Nat.ne_of_lt z1_0; have m1_0 := (Nat.ne_of_lt z1_0).symm
        rw [HF.out] at o1 ⊢
        obtain ⟨A, c, hv1, f1, f2, f3⟩ := o1.form
        have hv2 : r1 = .slice A (toL m).length c := hv1
        subst hv2
        have HO := Lib.hid (show Own w1 (w.heap.size + 1) 3 (.slice A (toL m).length c) (toL m) from (by refine Own.rebase (base := w.heap.size + 1) ?_ (by first | omega | (simp; done) | (simp; omega)); have this := o1; (try rw [List.nil_append] at this); repeat' (first | (with_reducible refine Own.far ?_ _ _ ?_) | (exact this) | (simp; done) | (simp; omega) | (simpa using this))))
        clear o1 f1 f2 f3 hv1
        first
          | (skip
             go_wp2_with fail
             (with_reducible refine (impl_bigMake false _ m (w.heap.size + 1) _ HO.out).mono ?_); rintro e w2 ⟨u2, A2, n2, c2, rfl, hu2, o2, b2⟩; obtain ⟨hc2, hf2⟩ := bxcell b2; have q2_0 := fun o => hc2 (w.heap.size) o (by first | omega | (simp; done) | (simp; omega)); have f2_0 := fun o => hf2 (w.heap.size) o (by first | omega | (simp; done) | (simp; omega)); have hz2 := b2.size; (try simp at hz2); have z2_0 : w.heap.size < w2.heap.size := (by omega); have n2_0 := Nat.ne_of_lt z2_0; have m2_0 := (Nat.ne_of_lt z2_0).symm
             rw [HLM.out] at hu2 o2
             have HO2 := Lib.hid o2
             have HU2 := Lib.hid hu2
             clear o2 hu2
             go_wp2
             exact bodyPost_ret (v := .tuple #[.agg #[.bool u2, .slice A2 n2 c2], .bool true]) (by simp [results, Tryz.results17, go_sem, *]) rfl (retzb_yes HR.out HU2.out (by refine Own.rebase (base := w.heap.size + 1) ?_ (by first | omega | (simp; done) | (simp; omega)); have this := HO2.out; (try rw [List.nil_append] at this); repeat' (first | (with_reducible refine Own.far ?_ _ _ ?_) | (exact this) | (simp; done) | (simp; omega) | (simpa using this))) (by repeat' (first | (with_reducible exact Below.refl _ _) | (with_reducible refine Below.alloc ?_ ?_ _) | (with_reducible refine Below.setCell ?_ ?_ _) | (with_reducible refine below_drewN ?_ _) | (with_reducible refine Below.drew ?_) | (with_reducible refine below_step (by assumption) ?_ ?_) | omega | (simp; done) | (simp; omega)))))
          | (fail
             go_wp2
             exact bodyPost_ret (v := .tuple #[.agg #[.bool false, .slice A (toL m).length c], .bool true]) (by simp [results, Tryz.results17, go_sem, *]) rfl (retzb_yes HR.out HNG.out.symm (by rw [HAB.out]; exact (by refine Own.rebase (base := w.heap.size + 1) ?_ (by first | omega | (simp; done) | (simp; omega)); have this := HO.out; (try rw [List.nil_append] at this); repeat' (first | (with_reducible refine Own.far ?_ _ _ ?_) | (exact this) | (simp; done) | (simp; omega) | (simpa using this)))) (by repeat' (first | (with_reducible exact Below.refl _ _) | (with_reducible refine Below.alloc ?_ ?_ _) | (with_reducible refine Below.setCell ?_ ?_ _) | (with_reducible refine below_drewN ?_ _) | (with_reducible refine Below.drew ?_) | (with_reducible refine below_step (by assumption) ?_ ?_) | omega | (simp; done) | (simp; omega)))))


end Go.Proofs.YticekjagmcphbaaGreatDoor

namespace Go.Proofs.YticekjagmcphbaaGreatDoor
open Go.RowKit

/-- Does byte b occur in s? -/
def hasB (s : ByteArray) (b : UInt8) : Bool := s.data.toList.any (· == b)
/-- The parts of s from place i on, the running part beginning at f. -/
def parts (s by' : ByteArray) (f i : Nat) : List ByteArray :=
  if h : i < s.size then (if hasB by' s[i] = true then s.extract f i :: parts s by' (i + 1) (i + 1) else parts s by' f (i + 1)) else [s.extract f s.size]
termination_by s.size - i
theorem parts_end {s b : ByteArray} {f i : Nat} (h : ¬ i < s.size) : parts s b f i = [s.extract f s.size] := by rw [parts, dif_neg h]
theorem parts_hit {s b : ByteArray} {f i : Nat} (h : i < s.size) (hb : hasB b s[i] = true) : parts s b f i = s.extract f i :: parts s b (i + 1) (i + 1) := by rw [parts, dif_pos h, if_pos hb]
theorem parts_miss {s b : ByteArray} {f i : Nat} (h : i < s.size) (hb : hasB b s[i] = false) : parts s b f i = parts s b f (i + 1) := by
  rw [parts, dif_pos h, if_neg (by rw [hb]; simp)]
theorem any_bad {s : ByteArray} {b : UInt8} (h : (s.data.toList.take s.size).any (· == b) = false) : hasB s b = false := by
  unfold hasB
  rwa [List.take_of_length_le (by rw [list_size]; omega)] at h
theorem any_hit {s : ByteArray} {b : UInt8} {k : Nat} (hk : k < s.size) (h : s[k] = b) : hasB s b = true := by
  unfold hasB
  rw [List.any_eq_true]
  exact ⟨s[k], List.mem_of_getElem? (byte_get hk), by rw [h]; simp⟩
theorem any_snoc {l : List UInt8} {b d : UInt8} {k : Nat} (h : (l.take k).any (· == b) = false) (hd : l[k]? = some d) (hne : d ≠ b) : (l.take (k + 1)).any (· == b) = false := by
  rw [take_snoc hd, List.any_append, h]
  simpa using hne
theorem byte_eq {a b : UInt8} (h : a = b) : ((a.toNat : Int) == (b.toNat : Int)) = true := by rw [h]; simp
theorem byte_ne {a b : UInt8} (h : ¬ a = b) : ((a.toNat : Int) == (b.toNat : Int)) = false := by
  rw [beq_eq_false_iff_ne]
  intro h1
  exact h (UInt8.toNat_inj.1 (by omega))

set_option maxHeartbeats 1000000 in
theorem impl_hasByte (s : ByteArray) (b : UInt8) (w : World) (hs : s.size ≤ maxLen) :
    Calls Tryz.prog 34 #[.string s, .int .u8 (b.toNat : Int)] w fun e w' => e = .returned (.bool (hasB s b)) ∧ w = w' := by
  unfold maxLen at hs
  go_enter Tryz.func34, Tryz.ntmps34
  go_wp2
  go_loop [5] (fun i => ∃ k : Nat, k ≤ s.size ∧ i = .int .i64 k ∧ (s.data.toList.take k).any (· == b) = false) (fun i => s.size - (intOf i).toNat)
  case atStart => exact ⟨0, Nat.zero_le _, rfl, rfl⟩
  case round =>
    obtain ⟨k, hk, rfl, hall⟩ := hrel
    have HA := Lib.hid hall; clear hall
    by_cases hlt : k < s.size
    · have HD := Lib.hid (byte_get hlt)
      by_cases h1 : s[k] = b
      · have hb := byte_eq h1
        have HR := Lib.hid (any_hit hlt h1)
        clear h1
        go_wp2
        go_ret
        exact ⟨ret_bool HR.out.symm, rfl⟩
      · have hb := byte_ne h1
        have HN := Lib.hid h1
        clear h1
        go_wp2
        go_round
        case rel => exact ⟨k + 1, by omega, by go_num, any_snoc HA.out HD.out HN.out⟩
        case measure => simp [intOf]; omega
    · have HR := Lib.hid (any_bad (by have := HA.out; rwa [show k = s.size by omega] at this))
      go_wp2
      go_ret
      exact ⟨ret_bool HR.out.symm, rfl⟩
theorem parts_len {s b : ByteArray} : ∀ (n i f : Nat), n = s.size - i → (parts s b f i).length ≤ s.size - i + 1 := by
  intro n
  induction n with
  | zero =>
    intro i f h
    rw [parts_end (by omega)]
    simp
  | succ n ih =>
    intro i f h
    have hi : i < s.size := by omega
    cases hb : hasB b s[i] with
    | true =>
      rw [parts_hit hi hb, List.length_cons]
      have := ih (i + 1) (i + 1) (by omega)
      omega
    | false =>
      rw [parts_miss hi hb]
      have := ih (i + 1) f (by omega)
      omega
theorem parts_ne {s b : ByteArray} : ∀ (n i f : Nat), n = s.size - i → 0 < (parts s b f i).length := by
  intro n
  induction n with
  | zero =>
    intro i f h
    rw [parts_end (by omega)]
    simp
  | succ n ih =>
    intro i f h
    have hi : i < s.size := by omega
    cases hb : hasB b s[i] with
    | true => rw [parts_hit hi hb]; simp
    | false =>
      rw [parts_miss hi hb]
      exact ih (i + 1) f (by omega)
/-- What SplitAny hands back. -/
def splitF (s b : ByteArray) : List ByteArray := parts s b 0 0
theorem splitF_len (s b : ByteArray) : (splitF s b).length ≤ s.size + 1 := by
  have := parts_len (s := s) (b := b) s.size 0 0 rfl
  simpa [splitF] using this

set_option maxHeartbeats 1000000 in
theorem impl_SplitAny (s b : ByteArray) (w : World) (hs : s.size ≤ 1048576) (hb : b.size ≤ maxLen) :
    Calls Tryz.prog 16 #[.string s, .string b] w (RetOwnS 9 (splitF s b) w) := by
  have HB := Lib.hid hb
  clear hb
  go_enter Tryz.func16, Tryz.ntmps16
  go_wp2
  go_loopw [5, 6, 7] (fun l f i wr => ∃ (k j : Nat) (xs : List ByteArray), k ≤ s.size ∧ j ≤ k ∧ i = .int .i64 k ∧ f = .int .i64 j ∧ xs ++ parts s b j k = splitF s b ∧ xs.length ≤ k ∧ OwnS wr w.heap.size 9 l xs ∧ Below w.heap.size w wr) (fun _ _ i _ => s.size - (intOf i).toNat)
  case atStart => exact ⟨0, 0, [], Nat.zero_le _, Nat.zero_le _, rfl, rfl, rfl, Nat.zero_le _, own_emptyS w (Nat.le_refl _), (by repeat' (first | (with_reducible exact Below.refl _ _) | (with_reducible refine Below.alloc ?_ ?_ _) | (with_reducible refine Below.setCell ?_ ?_ _) | (with_reducible refine below_drewN ?_ _) | (with_reducible refine Below.drew ?_) | (with_reducible refine below_step (by assumption) ?_ ?_) | omega | (simp; done) | (simp; omega)))⟩
  case round =>
    obtain ⟨k, j, xs, hk, hj, rfl, rfl, hp, hl, hown, hbl⟩ := hrel
    have HP := Lib.hid hp
    have HO := Lib.hid hown
    clear hp hown
    have hsz := hbl.size
    by_cases hlt : k < s.size
    · cases hh : hasB b s[k] with
      | true =>
        have HH := Lib.hid (parts_hit (f := j) hlt hh)
        have HC := Lib.hid hh
        clear hh
        go_wp2_with fail
        refine (impl_hasByte b s[k] _ HB.out).mono ?_
        rintro e w' ⟨rfl, rfl⟩
        rw [HC.out]
        go_wp2_with (at_builtin; refine wpList_app1S _ rfl _ _ rfl Tryz.strP HO.out rfl rfl (by omega) hsz ?_; intro v' w1 hown' hb' hg'; clear hg')
        go_roundw
        case rel => exact ⟨k + 1, k + 1, xs ++ [s.extract j k], by omega, Nat.le_refl _, by go_num, by go_num, by rw [List.append_assoc, ← HP.out, HH.out]; rfl, by simp; omega, by simpa using hown', hbl.trans hb'⟩
        case measure => simp [intOf]; omega
      | false =>
        have HH := Lib.hid (parts_miss (f := j) hlt hh)
        have HC := Lib.hid hh
        clear hh
        go_wp2_with fail
        refine (impl_hasByte b s[k] _ HB.out).mono ?_
        rintro e w' ⟨rfl, rfl⟩
        rw [HC.out]
        go_wp2
        go_roundw
        case rel => exact ⟨k + 1, j, xs, by omega, by omega, by go_num, rfl, by rw [← HP.out, HH.out], by omega, HO.out, hbl⟩
        case measure => simp [intOf]; omega
    · have HE := Lib.hid (parts_end (b := b) (f := j) hlt)
      go_wp2_with (at_builtin; refine wpList_app1S _ rfl _ _ rfl Tryz.strP HO.out rfl rfl (by omega) hsz ?_; intro v' w1 hown' hb' hg'; clear hg')
      have HO1 := Lib.hid hown'
      clear hown'
      go_ret
      exact ⟨_, rfl, by rw [← HP.out, HE.out]; simpa using HO1.out, hbl.trans hb'⟩
/-- What SplitLines hands back. -/
def linesF (s : ByteArray) : List ByteArray := if (splitF s ⟨#[10]⟩).getLast? = some ⟨#[]⟩ then (splitF s ⟨#[10]⟩).take ((splitF s ⟨#[10]⟩).length - 1) else splitF s ⟨#[10]⟩
theorem linesF_len (s : ByteArray) : (linesF s).length ≤ s.size + 1 := by
  have h := splitF_len s ⟨#[10]⟩
  unfold linesF
  split
  · rw [List.length_take]; omega
  · exact h
theorem splitF_pos (s b : ByteArray) : 0 < (splitF s b).length := parts_ne _ 0 0 rfl
theorem str_isE {d : ByteArray} (h : d = ⟨#[]⟩) : d.toList.isEmpty = true := by rw [h, ByteArray.toList_eq]; rfl
theorem str_noE {d : ByteArray} (h : ¬ d = ⟨#[]⟩) : d.toList.isEmpty = false := by
  rw [ByteArray.toList_eq, List.isEmpty_eq_false_iff]
  intro h1
  exact h (ByteArray.ext (Array.toList_inj.1 (by rw [h1])))
theorem last_at {xs : List ByteArray} {m : Nat} {d : ByteArray} (hl : xs.length = m + 1) (hd : xs[m]? = some d) : xs.getLast? = some d := by
  rw [List.getLast?_eq_getElem?, hl]
  exact hd




end Go.Proofs.YticekjagmcphbaaGreatDoor

namespace Go.Proofs.YticekjagmcphbaaGreatDoor
open Go.RowKit

/-- The fraction that a string might spell: its number, its denominator's limbs; could it be read? -/
def ratCand (s : ByteArray) : Int × List Int × Bool :=
  match splitF s ⟨#[47]⟩ with
  | [] => (0, [], false)
  | [a] => ((parseBigF a).1, [1], (parseBigF a).2)
  | a :: b :: _ => ((parseBigF a).1, (parseNatF b).1, (parseBigF a).2 && (parseNatF b).2)
/-- What ParseRat answers. -/
noncomputable def parseRatF (s : ByteArray) : (Bool × List Int × List Int) × Bool :=
  @ite _ ((ratCand s).2.2 = true ∧ ratOkB (decide ((ratCand s).1 < 0)) (toL (ratCand s).1.natAbs) (ratCand s).2.1 = true ∧ fmtRatF (decide ((ratCand s).1 < 0)) (toL (ratCand s).1.natAbs) (ratCand s).2.1 = s) (Classical.propDecidable _)
    ((decide ((ratCand s).1 < 0), toL (ratCand s).1.natAbs, (ratCand s).2.1), true) ((false, [], []), false)
theorem pr_yes {s : ByteArray} {z : Int} {ys : List Int} (h : ratCand s = (z, ys, true)) (h1 : ratOkB (decide (z < 0)) (toL z.natAbs) ys = true) (h2 : fmtRatF (decide (z < 0)) (toL z.natAbs) ys = s) :
    parseRatF s = ((decide (z < 0), toL z.natAbs, ys), true) := by
  unfold parseRatF
  rw [if_pos (by rw [h]; exact ⟨rfl, h1, h2⟩), h]
theorem pr_no {s : ByteArray} (h : ¬ ((ratCand s).2.2 = true ∧ ratOkB (decide ((ratCand s).1 < 0)) (toL (ratCand s).1.natAbs) (ratCand s).2.1 = true ∧ fmtRatF (decide ((ratCand s).1 < 0)) (toL (ratCand s).1.natAbs) (ratCand s).2.1 = s)) : parseRatF s = ((false, [], []), false) := by
  unfold parseRatF
  rw [if_neg h]
theorem pr_bad {s : ByteArray} (h : (ratCand s).2.2 = false) : parseRatF s = ((false, [], []), false) := pr_no fun h1 => by rw [h] at h1; exact absurd h1.1 (by simp)
theorem pr_notok {s : ByteArray} {z : Int} {ys : List Int} {ok : Bool} (h : ratCand s = (z, ys, ok)) (h1 : ratOkB (decide (z < 0)) (toL z.natAbs) ys = false) : parseRatF s = ((false, [], []), false) := pr_no fun h2 => by
  rw [h] at h2
  rw [h1] at h2
  exact absurd h2.2.1 (by simp)
theorem pr_other {s : ByteArray} {z : Int} {ys : List Int} {ok : Bool} (h : ratCand s = (z, ys, ok)) (h1 : ¬ fmtRatF (decide (z < 0)) (toL z.natAbs) ys = s) : parseRatF s = ((false, [], []), false) := pr_no fun h2 => by
  rw [h] at h2
  exact h1 h2.2.2
theorem cand_one {s a : ByteArray} (h : splitF s ⟨#[47]⟩ = [a]) : ratCand s = ((parseBigF a).1, [1], (parseBigF a).2) := by unfold ratCand; rw [h]
theorem cand_two {s a b : ByteArray} {r : List ByteArray} (h : splitF s ⟨#[47]⟩ = a :: b :: r) : ratCand s = ((parseBigF a).1, (parseNatF b).1, (parseBigF a).2 && (parseNatF b).2) := by unfold ratCand; rw [h]

theorem has1 (c d : UInt8) : hasB ⟨#[c]⟩ d = true ↔ c = d := by
  unfold hasB
  simp
theorem parts_count {s : ByteArray} {c : UInt8} : ∀ (n i f : Nat), n = s.size - i → i ≤ s.size → (parts s ⟨#[c]⟩ f i).length = (s.data.toList.drop i).count c + 1 := by
  intro n
  induction n with
  | zero =>
    intro i f h h2
    rw [parts_end (by omega), List.drop_eq_nil_of_le (by rw [list_size]; omega)]
    rfl
  | succ n ih =>
    intro i f h h2
    have hi : i < s.size := by omega
    have h8 : s.data.toList.drop i = s[i] :: s.data.toList.drop (i + 1) := by
      rw [List.drop_eq_getElem_cons (by rw [list_size]; exact hi)]
      rfl
    cases hb : hasB ⟨#[c]⟩ s[i] with
    | true =>
      rw [parts_hit hi hb, List.length_cons, ih (i + 1) (i + 1) (by omega) (by omega), h8, ← (has1 c s[i]).1 hb, List.count_cons_self]
    | false =>
      rw [parts_miss hi hb, ih (i + 1) f (by omega) (by omega), h8, List.count_cons_of_ne (by
        intro h9
        rw [(has1 c s[i]).2 h9.symm] at hb
        cases hb)]
theorem count_dig {l : List UInt8} (h : l.all digB = true) : l.count 47 = 0 := by
  rw [List.count_eq_zero]
  intro h1
  have h2 := List.all_eq_true.1 h 47 h1
  exact absurd h2 (by decide)
theorem count_nat (xs : List Int) : (fmtNatF xs).data.toList.count 47 = 0 := by
  unfold fmtNatF
  split
  · exact count_dig (dec_all _)
  · rfl
theorem count_big (s : Bool) (xs : List Int) : (fmtBigF s xs).data.toList.count 47 = 0 := by
  unfold fmtBigF
  split
  · split
    · rw [show (⟨#[45]⟩ ++ fmtNatF xs : ByteArray).data.toList = 45 :: (fmtNatF xs).data.toList by simp, List.count_cons_of_ne (by decide)]
      exact count_nat xs
    · exact count_nat xs
  · rfl
theorem count_rat (s : Bool) (xs ys : List Int) : (fmtRatF s xs ys).data.toList.count 47 ≤ 1 := by
  unfold fmtRatF
  split
  · split
    · rw [count_big]; omega
    · rw [show (fmtBigF s xs ++ (⟨#[47]⟩ ++ fmtNatF ys) : ByteArray).data.toList = (fmtBigF s xs).data.toList ++ 47 :: (fmtNatF ys).data.toList by simp, List.count_append, count_big, List.count_cons_self, count_nat]
      omega
  · show ([] : List UInt8).count 47 ≤ 1
    simp
theorem pr_long {s : ByteArray} (h : 2 < (splitF s ⟨#[47]⟩).length) : parseRatF s = ((false, [], []), false) := pr_no fun h1 => by
  have h2 := count_rat (decide ((ratCand s).1 < 0)) (toL (ratCand s).1.natAbs) (ratCand s).2.1
  rw [h1.2.2] at h2
  have h3 := parts_count (s := s) (c := 47) s.size 0 0 rfl (Nat.zero_le _)
  rw [List.drop_zero] at h3
  unfold splitF at h
  omega
theorem pr_len (s : ByteArray) : (parseRatF s).1.2.1.length ≤ 60 ∧ (parseRatF s).1.2.2.length ≤ 60 := by
  unfold parseRatF
  split
  · rename_i h
    have h1 := h.2.1
    unfold ratOkB at h1
    rw [Bool.and_eq_true, Bool.and_eq_true] at h1
    have h2 := h1.1
    unfold bigOk at h2
    rw [Bool.and_eq_true] at h2
    exact ⟨(okB_iff.1 h2.1).1, (okB_iff.1 h1.2.1).1⟩
  · exact ⟨Nat.zero_le _, Nat.zero_le _⟩
/-- What is written of a fraction that is none is empty, and only that. -/
theorem fmtRat_empty {s : Bool} {xs ys : List Int} : fmtRatF s xs ys = ⟨#[]⟩ ↔ ratOkB s xs ys = false := by
  constructor
  · intro h
    cases hx : ratOkB s xs ys with
    | false => rfl
    | true =>
      exfalso
      have h1 : bigOk s xs = true := by
        unfold ratOkB at hx
        rw [Bool.and_eq_true] at hx
        exact hx.1
      have h2 : okB xs = true := by
        unfold bigOk at h1
        rw [Bool.and_eq_true] at h1
        exact h1.1
      have h3 : 0 < (fmtNatF xs).size := by
        unfold fmtNatF
        rw [if_pos h2]
        unfold decF
        rw [bytes_size]
        exact dec_ne _
      have h4 : 0 < (fmtBigF s xs).size := by
        unfold fmtBigF
        rw [if_pos h1]
        split
        · rw [ByteArray.size_append]; omega
        · exact h3
      have h5 : (fmtRatF s xs ys).size = 0 := by rw [h]; rfl
      unfold fmtRatF at h5
      rw [if_pos hx] at h5
      split at h5
      · omega
      · rw [ByteArray.size_append] at h5; omega
  · exact fmtRat_no
end Go.Proofs.YticekjagmcphbaaGreatDoor

namespace Go.Proofs.YticekjagmcphbaaGreatDoor
open Go.RowKit

/-- A fraction and a bool are handed back. -/
def RetQB (e : TypeId) (p : (Bool × List Int × List Int) × Bool) (w : World) (en : Ending) (w' : World) : Prop :=
  ∃ A n c B m d, en = .returned (.tuple #[.agg #[.bool p.1.1, .slice A n c, .slice B m d], .bool p.2]) ∧ PairR w' w.heap.size w'.heap.size e (.slice A n c) (.slice B m d) p.1.2.1 p.1.2.2 ∧ Below w.heap.size w w'
theorem OwnR.none (w : World) (lo e : Nat) : OwnR w lo lo e (.slice none 0 0) [] := ⟨Own.nil _ _ _, fun k hk => by cases hk⟩
theorem retqb_no {e : TypeId} {p : (Bool × List Int × List Int) × Bool} {w w' : World} (h : p = ((false, [], []), false)) (b : Below w.heap.size w w') :
    RetQB e p w (.returned (.tuple #[.agg #[.bool false, .slice none 0 0, .slice none 0 0], .bool false])) w' := by
  subst h
  exact ⟨none, 0, 0, none, 0, 0, rfl, PairR.mk' (OwnR.none w' w.heap.size e) (OwnR.none w' w.heap.size e) (Nat.le_refl _) (Nat.le_refl _) (.inl (Nat.le_refl _)) b.size b.size (Nat.le_refl _) (Nat.le_refl _), b⟩
theorem retqb_yes {e : TypeId} {p : (Bool × List Int × List Int) × Bool} {u : Bool} {xs ys : List Int} {A B : Option Addr} {n c m d lo1 hi1 lo2 hi2 : Nat} {w w' : World} (h : p = ((u, xs, ys), true)) (h1 : OwnR w' lo1 hi1 e (.slice A n c) xs) (h2 : OwnR w' lo2 hi2 e (.slice B m d) ys)
    (a : w.heap.size ≤ lo1) (b : w.heap.size ≤ lo2) (k : hi1 ≤ lo2 ∨ hi2 ≤ lo1) (f : hi1 ≤ w'.heap.size) (g : hi2 ≤ w'.heap.size) (i : lo1 ≤ hi1) (j : lo2 ≤ hi2) (bl : Below w.heap.size w w') :
    RetQB e p w (.returned (.tuple #[.agg #[.bool u, .slice A n c, .slice B m d], .bool true])) w' := by
  subst h
  exact ⟨A, n, c, B, m, d, rfl, PairR.mk' h1 h2 a b k f g i j, bl⟩
theorem one_cell {w w' : World} {b : Nat} (h : w.cell? ⟨b, 0, none⟩ = some (.int .i64 1)) (hb : Below (b + 1) w w') : Sl w' (.slice (some ⟨b, 0, none⟩) 1 1) [1] := by
  refine ⟨_, 1, rfl, Nat.le_refl _, by simp [maxLen], fun _ => ⟨b, 0, rfl, fun i d hd => ?_⟩⟩
  match i, hd with
  | 0, hd =>
    cases hd
    exact (hb.cell (p := ⟨b, 0, none⟩) (Nat.lt_succ_self b)).trans h
theorem own_lit1 (w : World) {b e : Nat} (hb : b = w.heap.size) : OwnR (w.alloc (.cells #[.int .i64 1] e)) b (b + 1) e (.slice (some ⟨b, 0, none⟩) 1 1) [1] := by
  subst hb
  exact ⟨own_one w 1 (Nat.le_refl _), fun k hk => by cases hk; exact Nat.lt_succ_self _⟩
theorem ca1 {w : World} {b : Nat} (h : b < w.heap.size) : ∀ (o1 : Obj) (o : Nat), (w.alloc o1).cell? ⟨b, o, none⟩ = w.cell? ⟨b, o, none⟩ :=
  fun o1 o => (show Below w.heap.size w (w.alloc o1) from (by repeat' (first | (with_reducible exact Below.refl _ _) | (with_reducible refine Below.alloc ?_ ?_ _) | (with_reducible refine Below.setCell ?_ ?_ _) | (with_reducible refine below_drewN ?_ _) | (with_reducible refine Below.drew ?_) | (with_reducible refine below_step (by assumption) ?_ ?_) | omega | (simp; done) | (simp; omega)))).cell (p := ⟨b, o, none⟩) h
theorem ca2 {w : World} {b : Nat} (h : b < w.heap.size) : ∀ (o1 o2 : Obj) (o : Nat), ((w.alloc o1).alloc o2).cell? ⟨b, o, none⟩ = w.cell? ⟨b, o, none⟩ :=
  fun o1 o2 o => (show Below w.heap.size w ((w.alloc o1).alloc o2) from (by repeat' (first | (with_reducible exact Below.refl _ _) | (with_reducible refine Below.alloc ?_ ?_ _) | (with_reducible refine Below.setCell ?_ ?_ _) | (with_reducible refine below_drewN ?_ _) | (with_reducible refine Below.drew ?_) | (with_reducible refine below_step (by assumption) ?_ ?_) | omega | (simp; done) | (simp; omega)))).cell (p := ⟨b, o, none⟩) h
theorem ca3 {w : World} {b : Nat} (h : b < w.heap.size) : ∀ (o1 o2 o3 : Obj) (o : Nat), (((w.alloc o1).alloc o2).alloc o3).cell? ⟨b, o, none⟩ = w.cell? ⟨b, o, none⟩ :=
  fun o1 o2 o3 o => (show Below w.heap.size w (((w.alloc o1).alloc o2).alloc o3) from (by repeat' (first | (with_reducible exact Below.refl _ _) | (with_reducible refine Below.alloc ?_ ?_ _) | (with_reducible refine Below.setCell ?_ ?_ _) | (with_reducible refine below_drewN ?_ _) | (with_reducible refine Below.drew ?_) | (with_reducible refine below_step (by assumption) ?_ ?_) | omega | (simp; done) | (simp; omega)))).cell (p := ⟨b, o, none⟩) h
/-- The bytes of all the strings of a list. -/
def totB : List ByteArray → Nat
  | [] => 0
  | d :: l => d.size + totB l
theorem tot_mem {a : ByteArray} {L : List ByteArray} (h : a ∈ L) : a.size ≤ totB L := by
  induction L with
  | nil => cases h
  | cons d l ih =>
    rcases List.mem_cons.1 h with rfl | h
    · unfold totB; omega
    · have := ih h
      unfold totB
      omega
theorem totB_parts {s b : ByteArray} : ∀ (n i f : Nat), n = s.size - i → f ≤ i → i ≤ s.size → totB (parts s b f i) ≤ s.size - f := by
  intro n
  induction n with
  | zero =>
    intro i f h h1 h2
    rw [parts_end (by omega)]
    simp [totB, ByteArray.size_extract]
  | succ n ih =>
    intro i f h h1 h2
    have hi : i < s.size := by omega
    cases hb : hasB b s[i] with
    | true =>
      rw [parts_hit hi hb]
      unfold totB
      rw [ByteArray.size_extract]
      have := ih (i + 1) (i + 1) (by omega) (Nat.le_refl _) (by omega)
      omega
    | false =>
      rw [parts_miss hi hb]
      exact ih (i + 1) f (by omega) (by omega) (by omega)
theorem part_size {s b a : ByteArray} (h : a ∈ splitF s b) : a.size ≤ s.size := by
  have h1 := tot_mem h
  have h2 := totB_parts (s := s) (b := b) s.size 0 0 rfl (Nat.le_refl _) (Nat.zero_le _)
  unfold splitF at h1
  omega
set_option maxHeartbeats 8000000 in
theorem impl_ParseRat (s : ByteArray) (w : World) (hs : s.size ≤ 1048576) (ht : Tab w) :
    Calls Tryz.prog 5 #[.string s] w (RetQB 3 (parseRatF s) w) := by
  have HT := Lib.hid ht
  clear ht
  have hpos := splitF_pos s ⟨#[47]⟩
  have hlen := splitF_len s ⟨#[47]⟩
  have HPS := Lib.hid (fun a => @part_size s ⟨#[47]⟩ a)
  obtain ⟨L, hL⟩ : ∃ L, splitF s ⟨#[47]⟩ = L := ⟨_, rfl⟩
  have HL := Lib.hid hL
  rw [hL] at hpos hlen HPS
  by_cases h2 : 2 < L.length
  · have HR := Lib.hid (pr_long (s := s) (by rw [hL]; exact h2))
    have hll : (2 : Int) < (L.length : Int) := by omega
    have hlm : (L.length : Int) ≤ 1048577 := by omega
    clear hL h2 hpos hlen
    go_enter Tryz.func5, Tryz.ntmps5
    go_wp2_with fail
    (with_reducible refine (impl_SplitAny s ⟨#[47]⟩ _ hs (by unfold maxLen; decide)).mono ?_); rintro e w1 ⟨r1, rfl, o1, b1⟩; obtain ⟨hc1, hf1⟩ := bxcell b1; have q1_0 := fun o => hc1 (w.heap.size) o (by first | omega | (simp; done) | (simp; omega)); have f1_0 := fun o => hf1 (w.heap.size) o (by first | omega | (simp; done) | (simp; omega)); have hz1 := b1.size; (try simp at hz1); have z1_0 : w.heap.size < w1.heap.size := (by omega); have n1_0 := Nat.ne_of_lt z1_0; have m1_0 := (Nat.ne_of_lt z1_0).symm
    rw [HL.out] at o1
    obtain ⟨D1, d1, hv1, _, f1, g1⟩ := o1.form
    subst hv1
    clear o1 g1 f1
    go_wp2
    refine bodyPost_ret (v := .tuple #[.agg #[.bool false, .slice none 0 0, .slice none 0 0], .bool false]) ?_ ?_ ?_
    · simp [results, Tryz.results5, go_sem, *]
    · rfl
    · exact retqb_no HR.out (by repeat' (first | (with_reducible exact Below.refl _ _) | (with_reducible refine Below.alloc ?_ ?_ _) | (with_reducible refine Below.setCell ?_ ?_ _) | (with_reducible refine below_drewN ?_ _) | (with_reducible refine Below.drew ?_) | (with_reducible refine below_step (by assumption) ?_ ?_) | omega | (simp; done) | (simp; omega)))
  rcases L with _ | ⟨a, _ | ⟨b, _ | ⟨c, r⟩⟩⟩
  · cases hpos
  · have HSA := Lib.hid (HPS.out a (by simp))
    obtain ⟨z, ok, hz⟩ : ∃ z ok, parseBigF a = (z, ok) := ⟨_, _, rfl⟩
    have HZ := Lib.hid hz
    have HC := Lib.hid (show ratCand s = (z, [1], ok) by rw [cand_one hL, hz])
    clear hL hz hpos hlen h2 HPS
    cases ok with
    | false =>
      have HR := Lib.hid (pr_bad (s := s) (by rw [HC.out]))
      go_enter Tryz.func5, Tryz.ntmps5
      go_wp2_with fail
      (with_reducible refine (impl_SplitAny s ⟨#[47]⟩ _ hs (by unfold maxLen; decide)).mono ?_); rintro e w1 ⟨r1, rfl, o1, b1⟩; obtain ⟨hc1, hf1⟩ := bxcell b1; have q1_0 := fun o => hc1 (w.heap.size) o (by first | omega | (simp; done) | (simp; omega)); have f1_0 := fun o => hf1 (w.heap.size) o (by first | omega | (simp; done) | (simp; omega)); have hz1 := b1.size; (try simp at hz1); have z1_0 : w.heap.size < w1.heap.size := (by omega); have n1_0 := Nat.ne_of_lt z1_0; have m1_0 := (Nat.ne_of_lt z1_0).symm
      rw [HL.out] at o1
      obtain ⟨D1, d1, hv1, _, f1, g1⟩ := o1.form
      subst hv1
      obtain ⟨g, rfl, ga, gb⟩ := g1 (by simp)
      have SL := o1.sl
      obtain ⟨_, _, hvv, _, _, hcc⟩ := SL
      cases hvv
      obtain ⟨g', off', hgg, hcl⟩ := hcc (by simp)
      cases hgg
      have k1_0 : w1.cell? ⟨g, 0, none⟩ = some (.string a) := by simpa using hcl 0 a rfl
      clear hcl hcc
      clear o1 g1 f1
      go_wp2_with fail
      (with_reducible refine (impl_ParseBigInt a _ (by have := HSA.out; omega)).mono ?_); rintro e w2 ⟨A2, n2, c2, rfl, o2, b2⟩; obtain ⟨hc2, hf2⟩ := bxcell b2; have q2_0 := fun o => hc2 (w.heap.size) o (by first | omega | (simp; done) | (simp; omega)); have f2_0 := fun o => hf2 (w.heap.size) o (by first | omega | (simp; done) | (simp; omega)); have hz2 := b2.size; (try simp at hz2); have z2_0 : w.heap.size < w2.heap.size := (by omega); have n2_0 := Nat.ne_of_lt z2_0; have m2_0 := (Nat.ne_of_lt z2_0).symm
      have ca1_2_0 := ca1 z2_0
      have ca2_2_0 := ca2 z2_0
      have ca3_2_0 := ca3 z2_0
      have fz2_0 : ∀ o, w2.frozen? ⟨w.heap.size, o, none⟩ = false := fun o => by rw [f2_0, f1_0]; simp [go_sem]
      clear f1_0 f2_0 hf1 hf2
      have hfa := fun (u : World) (c : Array Value) (t : TypeId) (o : Nat) => frozen?_alloc_cells u c t ⟨w.heap.size, o, none⟩
      have nn2_0 : w.heap.size ≠ w2.heap.size + 1 := by omega
      have mm2_0 : w2.heap.size + 1 ≠ w.heap.size := by omega
      have nn2_1 : w.heap.size ≠ w2.heap.size + 1 + 1 := by omega
      have mm2_1 : w2.heap.size + 1 + 1 ≠ w.heap.size := by omega
      rw [HZ.out] at o2 ⊢
      have O2 := Lib.hid ((OwnR.of o2).wide (lo' := w1.heap.size) (by first | omega | (simp; done) | (simp; omega)) (Nat.le_refl _))
      clear o2
      go_wp2
      refine bodyPost_ret (v := .tuple #[.agg #[.bool false, .slice none 0 0, .slice none 0 0], .bool false]) ?_ ?_ ?_
      · simp [results, Tryz.results5, go_sem, *]
      · rfl
      · exact retqb_no HR.out (by repeat' (first | (with_reducible exact Below.refl _ _) | (with_reducible refine Below.alloc ?_ ?_ _) | (with_reducible refine Below.setCell ?_ ?_ _) | (with_reducible refine below_drewN ?_ _) | (with_reducible refine Below.drew ?_) | (with_reducible refine below_step (by assumption) ?_ ?_) | omega | (simp; done) | (simp; omega)))
    | true =>
      go_enter Tryz.func5, Tryz.ntmps5
      go_wp2_with fail
      (with_reducible refine (impl_SplitAny s ⟨#[47]⟩ _ hs (by unfold maxLen; decide)).mono ?_); rintro e w1 ⟨r1, rfl, o1, b1⟩; obtain ⟨hc1, hf1⟩ := bxcell b1; have q1_0 := fun o => hc1 (w.heap.size) o (by first | omega | (simp; done) | (simp; omega)); have f1_0 := fun o => hf1 (w.heap.size) o (by first | omega | (simp; done) | (simp; omega)); have hz1 := b1.size; (try simp at hz1); have z1_0 : w.heap.size < w1.heap.size := (by omega); have n1_0 := Nat.ne_of_lt z1_0; have m1_0 := (Nat.ne_of_lt z1_0).symm
      rw [HL.out] at o1
      obtain ⟨D1, d1, hv1, _, f1, g1⟩ := o1.form
      subst hv1
      obtain ⟨g, rfl, ga, gb⟩ := g1 (by simp)
      have SL := o1.sl
      obtain ⟨_, _, hvv, _, _, hcc⟩ := SL
      cases hvv
      obtain ⟨g', off', hgg, hcl⟩ := hcc (by simp)
      cases hgg
      have k1_0 : w1.cell? ⟨g, 0, none⟩ = some (.string a) := by simpa using hcl 0 a rfl
      clear hcl hcc
      clear o1 g1 f1
      go_wp2_with fail
      (with_reducible refine (impl_ParseBigInt a _ (by have := HSA.out; omega)).mono ?_); rintro e w2 ⟨A2, n2, c2, rfl, o2, b2⟩; obtain ⟨hc2, hf2⟩ := bxcell b2; have q2_0 := fun o => hc2 (w.heap.size) o (by first | omega | (simp; done) | (simp; omega)); have f2_0 := fun o => hf2 (w.heap.size) o (by first | omega | (simp; done) | (simp; omega)); have hz2 := b2.size; (try simp at hz2); have z2_0 : w.heap.size < w2.heap.size := (by omega); have n2_0 := Nat.ne_of_lt z2_0; have m2_0 := (Nat.ne_of_lt z2_0).symm
      have ca1_2_0 := ca1 z2_0
      have ca2_2_0 := ca2 z2_0
      have ca3_2_0 := ca3 z2_0
      have fz2_0 : ∀ o, w2.frozen? ⟨w.heap.size, o, none⟩ = false := fun o => by rw [f2_0, f1_0]; simp [go_sem]
      clear f1_0 f2_0 hf1 hf2
      have hfa := fun (u : World) (c : Array Value) (t : TypeId) (o : Nat) => frozen?_alloc_cells u c t ⟨w.heap.size, o, none⟩
      have nn2_0 : w.heap.size ≠ w2.heap.size + 1 := by omega
      have mm2_0 : w2.heap.size + 1 ≠ w.heap.size := by omega
      have nn2_1 : w.heap.size ≠ w2.heap.size + 1 + 1 := by omega
      have mm2_1 : w2.heap.size + 1 + 1 ≠ w.heap.size := by omega
      rw [HZ.out] at o2 ⊢
      have O2 := Lib.hid ((OwnR.of o2).wide (lo' := w1.heap.size) (by first | omega | (simp; done) | (simp; omega)) (Nat.le_refl _))
      clear o2
      have OL := Lib.hid (own_lit1 (w2.alloc (.cells #[.bool (decide (z < 0)), .slice A2 n2 c2] 25)) (b := w2.heap.size + 1) (e := 3) (by simp))
      cases hok : ratOkB (decide (z < 0)) (toL z.natAbs) [1] with
      | false =>
        have HR := Lib.hid (pr_notok HC.out hok)
        go_wp2_with fail
        (with_reducible refine (impl_RatOk (decide (z < 0)) A2 (some ⟨w2.heap.size + 1, 0, none⟩) n2 c2 1 1 (toL z.natAbs) [1] _ (OwnR.here O2.out (by repeat' (first | (with_reducible exact Below.refl _ _) | (with_reducible refine Below.alloc ?_ ?_ _) | (with_reducible refine Below.setCell ?_ ?_ _) | (with_reducible refine below_drewN ?_ _) | (with_reducible refine Below.drew ?_) | (with_reducible refine below_step (by assumption) ?_ ?_) | omega | (simp; done) | (simp; omega)))).sl (OwnR.here OL.out (by repeat' (first | (with_reducible exact Below.refl _ _) | (with_reducible refine Below.alloc ?_ ?_ _) | (with_reducible refine Below.setCell ?_ ?_ _) | (with_reducible refine below_drewN ?_ _) | (with_reducible refine Below.drew ?_) | (with_reducible refine below_step (by assumption) ?_ ?_) | omega | (simp; done) | (simp; omega)))).sl).mono ?_); rintro e w3 ⟨rfl, b3⟩; obtain ⟨hc3, hf3⟩ := bxcell b3; have q3_0 := fun o => hc3 (w.heap.size) o (by first | omega | (simp; done) | (simp; omega)); have q3_1 := fun o => hc3 (w2.heap.size + 1 + 1) o (by first | omega | (simp; done) | (simp; omega)); have f3_0 := fun o => hf3 (w.heap.size) o (by first | omega | (simp; done) | (simp; omega)); have f3_1 := fun o => hf3 (w2.heap.size + 1 + 1) o (by first | omega | (simp; done) | (simp; omega)); have hz3 := b3.size; (try simp at hz3); have z3_0 : w.heap.size < w3.heap.size := (by omega); have n3_0 := Nat.ne_of_lt z3_0; have m3_0 := (Nat.ne_of_lt z3_0).symm; have z3_1 : w2.heap.size + 1 + 1 < w3.heap.size := (by omega); have n3_1 := Nat.ne_of_lt z3_1; have m3_1 := (Nat.ne_of_lt z3_1).symm
        rw [hok]
        go_wp2
        refine bodyPost_ret (v := .tuple #[.agg #[.bool false, .slice none 0 0, .slice none 0 0], .bool false]) ?_ ?_ ?_
        · simp [results, Tryz.results5, go_sem, *]
        · rfl
        · exact retqb_no HR.out (by repeat' (first | (with_reducible exact Below.refl _ _) | (with_reducible refine Below.alloc ?_ ?_ _) | (with_reducible refine Below.setCell ?_ ?_ _) | (with_reducible refine below_drewN ?_ _) | (with_reducible refine Below.drew ?_) | (with_reducible refine below_step (by assumption) ?_ ?_) | omega | (simp; done) | (simp; omega)))
      | true =>
        obtain ⟨F, hF⟩ : ∃ F, F = fmtRatF (decide (z < 0)) (toL z.natAbs) [1] := ⟨_, rfl⟩
        have HF := Lib.hid hF
        by_cases hfs : F = s
        · have HR := Lib.hid (pr_yes HC.out hok (by rw [← hF]; exact hfs))
          have hcmp := str_eq hfs
          have HOK := Lib.hid hok
          clear hfs hF hok
          go_wp2_with fail
          (with_reducible refine (impl_RatOk (decide (z < 0)) A2 (some ⟨w2.heap.size + 1, 0, none⟩) n2 c2 1 1 (toL z.natAbs) [1] _ (OwnR.here O2.out (by repeat' (first | (with_reducible exact Below.refl _ _) | (with_reducible refine Below.alloc ?_ ?_ _) | (with_reducible refine Below.setCell ?_ ?_ _) | (with_reducible refine below_drewN ?_ _) | (with_reducible refine Below.drew ?_) | (with_reducible refine below_step (by assumption) ?_ ?_) | omega | (simp; done) | (simp; omega)))).sl (OwnR.here OL.out (by repeat' (first | (with_reducible exact Below.refl _ _) | (with_reducible refine Below.alloc ?_ ?_ _) | (with_reducible refine Below.setCell ?_ ?_ _) | (with_reducible refine below_drewN ?_ _) | (with_reducible refine Below.drew ?_) | (with_reducible refine below_step (by assumption) ?_ ?_) | omega | (simp; done) | (simp; omega)))).sl).mono ?_); rintro e w3 ⟨rfl, b3⟩; obtain ⟨hc3, hf3⟩ := bxcell b3; have q3_0 := fun o => hc3 (w.heap.size) o (by first | omega | (simp; done) | (simp; omega)); have q3_1 := fun o => hc3 (w2.heap.size + 1 + 1) o (by first | omega | (simp; done) | (simp; omega)); have f3_0 := fun o => hf3 (w.heap.size) o (by first | omega | (simp; done) | (simp; omega)); have f3_1 := fun o => hf3 (w2.heap.size + 1 + 1) o (by first | omega | (simp; done) | (simp; omega)); have hz3 := b3.size; (try simp at hz3); have z3_0 : w.heap.size < w3.heap.size := (by omega); have n3_0 := Nat.ne_of_lt z3_0; have m3_0 := (Nat.ne_of_lt z3_0).symm; have z3_1 : w2.heap.size + 1 + 1 < w3.heap.size := (by omega); have n3_1 := Nat.ne_of_lt z3_1; have m3_1 := (Nat.ne_of_lt z3_1).symm
          rw [HOK.out]
          go_wp2_with fail
          (with_reducible refine (impl_FormatRat (decide (z < 0)) A2 (some ⟨w2.heap.size + 1, 0, none⟩) n2 c2 1 1 (toL z.natAbs) [1] _ (OwnR.here O2.out (by repeat' (first | (with_reducible exact Below.refl _ _) | (with_reducible refine Below.alloc ?_ ?_ _) | (with_reducible refine Below.setCell ?_ ?_ _) | (with_reducible refine below_drewN ?_ _) | (with_reducible refine Below.drew ?_) | (with_reducible refine below_step (by assumption) ?_ ?_) | omega | (simp; done) | (simp; omega)))).sl (OwnR.here OL.out (by repeat' (first | (with_reducible exact Below.refl _ _) | (with_reducible refine Below.alloc ?_ ?_ _) | (with_reducible refine Below.setCell ?_ ?_ _) | (with_reducible refine below_drewN ?_ _) | (with_reducible refine Below.drew ?_) | (with_reducible refine below_step (by assumption) ?_ ?_) | omega | (simp; done) | (simp; omega)))).sl (HT.out.below (by repeat' (first | (with_reducible exact Below.refl _ _) | (with_reducible refine Below.alloc ?_ ?_ _) | (with_reducible refine Below.setCell ?_ ?_ _) | (with_reducible refine below_drewN ?_ _) | (with_reducible refine Below.drew ?_) | (with_reducible refine below_step (by assumption) ?_ ?_) | omega | (simp; done) | (simp; omega))))).mono ?_); rintro e w4 ⟨rfl, b4⟩; obtain ⟨hc4, hf4⟩ := bxcell b4; have q4_0 := fun o => hc4 (w.heap.size) o (by first | omega | (simp; done) | (simp; omega)); have q4_1 := fun o => hc4 (w2.heap.size + 1 + 1) o (by first | omega | (simp; done) | (simp; omega)); have f4_0 := fun o => hf4 (w.heap.size) o (by first | omega | (simp; done) | (simp; omega)); have f4_1 := fun o => hf4 (w2.heap.size + 1 + 1) o (by first | omega | (simp; done) | (simp; omega)); have hz4 := b4.size; (try simp at hz4); have z4_0 : w.heap.size < w4.heap.size := (by omega); have n4_0 := Nat.ne_of_lt z4_0; have m4_0 := (Nat.ne_of_lt z4_0).symm; have z4_1 : w2.heap.size + 1 + 1 < w4.heap.size := (by omega); have n4_1 := Nat.ne_of_lt z4_1; have m4_1 := (Nat.ne_of_lt z4_1).symm
          rw [← HF.out]
          go_wp2
          have O24 := Lib.hid (show OwnR w4 _ _ _ _ _ from OwnR.here O2.out (by repeat' (first | (with_reducible exact Below.refl _ _) | (with_reducible refine Below.alloc ?_ ?_ _) | (with_reducible refine Below.setCell ?_ ?_ _) | (with_reducible refine below_drewN ?_ _) | (with_reducible refine Below.drew ?_) | (with_reducible refine below_step (by assumption) ?_ ?_) | omega | (simp; done) | (simp; omega))))
          have OL4 := Lib.hid (show OwnR w4 _ _ _ _ _ from OwnR.here OL.out (by repeat' (first | (with_reducible exact Below.refl _ _) | (with_reducible refine Below.alloc ?_ ?_ _) | (with_reducible refine Below.setCell ?_ ?_ _) | (with_reducible refine below_drewN ?_ _) | (with_reducible refine Below.drew ?_) | (with_reducible refine below_step (by assumption) ?_ ?_) | omega | (simp; done) | (simp; omega))))
          refine bodyPost_ret (v := .tuple #[.agg #[.bool (decide (z < 0)), .slice A2 n2 c2, .slice (some ⟨w2.heap.size + 1, 0, none⟩) 1 1], .bool true]) ?_ ?_ ?_
          · simp [results, Tryz.results5, go_sem, *]
          · rfl
          · exact retqb_yes (lo1 := w1.heap.size) (hi1 := w2.heap.size) (lo2 := w2.heap.size + 1) (hi2 := w2.heap.size + 1 + 1) HR.out (by have hfar := O24.out; repeat' (first | (with_reducible exact hfar) | (with_reducible refine OwnR.far ?_ _ _ ?_) | (with_reducible refine OwnR.allocd ?_ _ ?_) | (left; first | omega | (simp; done) | (simp; omega)) | (right; first | omega | (simp; done) | (simp; omega)) | omega | (simp; done) | (simp; omega) | (exact hfar))) (by have hfar := OL4.out; repeat' (first | (with_reducible exact hfar) | (with_reducible refine OwnR.far ?_ _ _ ?_) | (with_reducible refine OwnR.allocd ?_ _ ?_) | (left; first | omega | (simp; done) | (simp; omega)) | (right; first | omega | (simp; done) | (simp; omega)) | omega | (simp; done) | (simp; omega) | (exact hfar))) (by first | omega | (simp; done) | (simp; omega)) (by first | omega | (simp; done) | (simp; omega)) (by first | (left; first | omega | (simp; done) | (simp; omega)) | (right; first | omega | (simp; done) | (simp; omega))) (by first | omega | (simp; done) | (simp; omega)) (by first | omega | (simp; done) | (simp; omega)) (by first | omega | (simp; done) | (simp; omega)) (by first | omega | (simp; done) | (simp; omega)) (by repeat' (first | (with_reducible exact Below.refl _ _) | (with_reducible refine Below.alloc ?_ ?_ _) | (with_reducible refine Below.setCell ?_ ?_ _) | (with_reducible refine below_drewN ?_ _) | (with_reducible refine Below.drew ?_) | (with_reducible refine below_step (by assumption) ?_ ?_) | omega | (simp; done) | (simp; omega)))
        · have HR := Lib.hid (pr_other HC.out (by rw [← hF]; exact hfs))
          have hcmp := str_ne hfs
          have HOK := Lib.hid hok
          clear hfs hF hok
          go_wp2_with fail
          (with_reducible refine (impl_RatOk (decide (z < 0)) A2 (some ⟨w2.heap.size + 1, 0, none⟩) n2 c2 1 1 (toL z.natAbs) [1] _ (OwnR.here O2.out (by repeat' (first | (with_reducible exact Below.refl _ _) | (with_reducible refine Below.alloc ?_ ?_ _) | (with_reducible refine Below.setCell ?_ ?_ _) | (with_reducible refine below_drewN ?_ _) | (with_reducible refine Below.drew ?_) | (with_reducible refine below_step (by assumption) ?_ ?_) | omega | (simp; done) | (simp; omega)))).sl (OwnR.here OL.out (by repeat' (first | (with_reducible exact Below.refl _ _) | (with_reducible refine Below.alloc ?_ ?_ _) | (with_reducible refine Below.setCell ?_ ?_ _) | (with_reducible refine below_drewN ?_ _) | (with_reducible refine Below.drew ?_) | (with_reducible refine below_step (by assumption) ?_ ?_) | omega | (simp; done) | (simp; omega)))).sl).mono ?_); rintro e w3 ⟨rfl, b3⟩; obtain ⟨hc3, hf3⟩ := bxcell b3; have q3_0 := fun o => hc3 (w.heap.size) o (by first | omega | (simp; done) | (simp; omega)); have q3_1 := fun o => hc3 (w2.heap.size + 1 + 1) o (by first | omega | (simp; done) | (simp; omega)); have f3_0 := fun o => hf3 (w.heap.size) o (by first | omega | (simp; done) | (simp; omega)); have f3_1 := fun o => hf3 (w2.heap.size + 1 + 1) o (by first | omega | (simp; done) | (simp; omega)); have hz3 := b3.size; (try simp at hz3); have z3_0 : w.heap.size < w3.heap.size := (by omega); have n3_0 := Nat.ne_of_lt z3_0; have m3_0 := (Nat.ne_of_lt z3_0).symm; have z3_1 : w2.heap.size + 1 + 1 < w3.heap.size := (by omega); have n3_1 := Nat.ne_of_lt z3_1; have m3_1 := (Nat.ne_of_lt z3_1).symm
          rw [HOK.out]
          go_wp2_with fail
          (with_reducible refine (impl_FormatRat (decide (z < 0)) A2 (some ⟨w2.heap.size + 1, 0, none⟩) n2 c2 1 1 (toL z.natAbs) [1] _ (OwnR.here O2.out (by repeat' (first | (with_reducible exact Below.refl _ _) | (with_reducible refine Below.alloc ?_ ?_ _) | (with_reducible refine Below.setCell ?_ ?_ _) | (with_reducible refine below_drewN ?_ _) | (with_reducible refine Below.drew ?_) | (with_reducible refine below_step (by assumption) ?_ ?_) | omega | (simp; done) | (simp; omega)))).sl (OwnR.here OL.out (by repeat' (first | (with_reducible exact Below.refl _ _) | (with_reducible refine Below.alloc ?_ ?_ _) | (with_reducible refine Below.setCell ?_ ?_ _) | (with_reducible refine below_drewN ?_ _) | (with_reducible refine Below.drew ?_) | (with_reducible refine below_step (by assumption) ?_ ?_) | omega | (simp; done) | (simp; omega)))).sl (HT.out.below (by repeat' (first | (with_reducible exact Below.refl _ _) | (with_reducible refine Below.alloc ?_ ?_ _) | (with_reducible refine Below.setCell ?_ ?_ _) | (with_reducible refine below_drewN ?_ _) | (with_reducible refine Below.drew ?_) | (with_reducible refine below_step (by assumption) ?_ ?_) | omega | (simp; done) | (simp; omega))))).mono ?_); rintro e w4 ⟨rfl, b4⟩; obtain ⟨hc4, hf4⟩ := bxcell b4; have q4_0 := fun o => hc4 (w.heap.size) o (by first | omega | (simp; done) | (simp; omega)); have q4_1 := fun o => hc4 (w2.heap.size + 1 + 1) o (by first | omega | (simp; done) | (simp; omega)); have f4_0 := fun o => hf4 (w.heap.size) o (by first | omega | (simp; done) | (simp; omega)); have f4_1 := fun o => hf4 (w2.heap.size + 1 + 1) o (by first | omega | (simp; done) | (simp; omega)); have hz4 := b4.size; (try simp at hz4); have z4_0 : w.heap.size < w4.heap.size := (by omega); have n4_0 := Nat.ne_of_lt z4_0; have m4_0 := (Nat.ne_of_lt z4_0).symm; have z4_1 : w2.heap.size + 1 + 1 < w4.heap.size := (by omega); have n4_1 := Nat.ne_of_lt z4_1; have m4_1 := (Nat.ne_of_lt z4_1).symm
          rw [← HF.out]
          go_wp2
          refine bodyPost_ret (v := .tuple #[.agg #[.bool false, .slice none 0 0, .slice none 0 0], .bool false]) ?_ ?_ ?_
          · simp [results, Tryz.results5, go_sem, *]
          · rfl
          · exact retqb_no HR.out (by repeat' (first | (with_reducible exact Below.refl _ _) | (with_reducible refine Below.alloc ?_ ?_ _) | (with_reducible refine Below.setCell ?_ ?_ _) | (with_reducible refine below_drewN ?_ _) | (with_reducible refine Below.drew ?_) | (with_reducible refine below_step (by assumption) ?_ ?_) | omega | (simp; done) | (simp; omega)))
  · have HSA := Lib.hid (HPS.out a (by simp))
    have HSB := Lib.hid (HPS.out b (by simp))
    obtain ⟨z, ok, hz⟩ : ∃ z ok, parseBigF a = (z, ok) := ⟨_, _, rfl⟩
    have HZ := Lib.hid hz
    clear hpos hlen h2 HPS
    cases ok with
    | false =>
      have HR := Lib.hid (pr_bad (s := s) (by rw [cand_two hL, hz]; rfl))
      clear hL hz
      go_enter Tryz.func5, Tryz.ntmps5
      go_wp2_with fail
      (with_reducible refine (impl_SplitAny s ⟨#[47]⟩ _ hs (by unfold maxLen; decide)).mono ?_); rintro e w1 ⟨r1, rfl, o1, b1⟩; obtain ⟨hc1, hf1⟩ := bxcell b1; have q1_0 := fun o => hc1 (w.heap.size) o (by first | omega | (simp; done) | (simp; omega)); have f1_0 := fun o => hf1 (w.heap.size) o (by first | omega | (simp; done) | (simp; omega)); have hz1 := b1.size; (try simp at hz1); have z1_0 : w.heap.size < w1.heap.size := (by omega); have n1_0 := Nat.ne_of_lt z1_0; have m1_0 := (Nat.ne_of_lt z1_0).symm
      rw [HL.out] at o1
      obtain ⟨D1, d1, hv1, _, f1, g1⟩ := o1.form
      subst hv1
      obtain ⟨g, rfl, ga, gb⟩ := g1 (by simp)
      have SL := o1.sl
      obtain ⟨_, _, hvv, _, _, hcc⟩ := SL
      cases hvv
      obtain ⟨g', off', hgg, hcl⟩ := hcc (by simp)
      cases hgg
      have k1_0 : w1.cell? ⟨g, 0, none⟩ = some (.string a) := by simpa using hcl 0 a rfl
      have k1_1 : w1.cell? ⟨g, 1, none⟩ = some (.string b) := by simpa using hcl 1 b rfl
      clear hcl hcc
      clear o1 g1 f1
      go_wp2_with fail
      (with_reducible refine (impl_ParseBigInt a _ (by have := HSA.out; omega)).mono ?_); rintro e w2 ⟨A2, n2, c2, rfl, o2, b2⟩; obtain ⟨hc2, hf2⟩ := bxcell b2; have q2_0 := fun o => hc2 (w.heap.size) o (by first | omega | (simp; done) | (simp; omega)); have q2_1 := fun o => hc2 (g) o (by first | omega | (simp; done) | (simp; omega)); have f2_0 := fun o => hf2 (w.heap.size) o (by first | omega | (simp; done) | (simp; omega)); have f2_1 := fun o => hf2 (g) o (by first | omega | (simp; done) | (simp; omega)); have hz2 := b2.size; (try simp at hz2); have z2_0 : w.heap.size < w2.heap.size := (by omega); have n2_0 := Nat.ne_of_lt z2_0; have m2_0 := (Nat.ne_of_lt z2_0).symm; have z2_1 : g < w2.heap.size := (by omega); have n2_1 := Nat.ne_of_lt z2_1; have m2_1 := (Nat.ne_of_lt z2_1).symm
      have ca1_2_0 := ca1 z2_0
      have ca2_2_0 := ca2 z2_0
      have ca3_2_0 := ca3 z2_0
      have ca1_2_1 := ca1 z2_1
      have ca2_2_1 := ca2 z2_1
      have ca3_2_1 := ca3 z2_1
      have fz2_0 : ∀ o, w2.frozen? ⟨w.heap.size, o, none⟩ = false := fun o => by rw [f2_0, f1_0]; simp [go_sem]
      clear f1_0 f2_0 hf1 hf2
      have hfa := fun (u : World) (c : Array Value) (t : TypeId) (o : Nat) => frozen?_alloc_cells u c t ⟨w.heap.size, o, none⟩
      have nn2_0 : w.heap.size ≠ w2.heap.size + 1 := by omega
      have mm2_0 : w2.heap.size + 1 ≠ w.heap.size := by omega
      have nn2_1 : w.heap.size ≠ w2.heap.size + 1 + 1 := by omega
      have mm2_1 : w2.heap.size + 1 + 1 ≠ w.heap.size := by omega
      have nn2_2 : g ≠ w2.heap.size + 1 := by omega
      have mm2_2 : w2.heap.size + 1 ≠ g := by omega
      have nn2_3 : g ≠ w2.heap.size + 1 + 1 := by omega
      have mm2_3 : w2.heap.size + 1 + 1 ≠ g := by omega
      rw [HZ.out] at o2 ⊢
      have O2 := Lib.hid ((OwnR.of o2).wide (lo' := w1.heap.size) (by first | omega | (simp; done) | (simp; omega)) (Nat.le_refl _))
      clear o2
      go_wp2
      refine bodyPost_ret (v := .tuple #[.agg #[.bool false, .slice none 0 0, .slice none 0 0], .bool false]) ?_ ?_ ?_
      · simp [results, Tryz.results5, go_sem, *]
      · rfl
      · exact retqb_no HR.out (by repeat' (first | (with_reducible exact Below.refl _ _) | (with_reducible refine Below.alloc ?_ ?_ _) | (with_reducible refine Below.setCell ?_ ?_ _) | (with_reducible refine below_drewN ?_ _) | (with_reducible refine Below.drew ?_) | (with_reducible refine below_step (by assumption) ?_ ?_) | omega | (simp; done) | (simp; omega)))
    | true =>
      obtain ⟨ys, fine, hy⟩ : ∃ ys fine, parseNatF b = (ys, fine) := ⟨_, _, rfl⟩
      have HY := Lib.hid hy
      have HC := Lib.hid (show ratCand s = (z, ys, fine) by rw [cand_two hL, hz, hy]; rfl)
      clear hL hz hy
      cases fine with
      | false =>
        have HR := Lib.hid (pr_bad (s := s) (by rw [HC.out]))
        go_enter Tryz.func5, Tryz.ntmps5
        go_wp2_with fail
        (with_reducible refine (impl_SplitAny s ⟨#[47]⟩ _ hs (by unfold maxLen; decide)).mono ?_); rintro e w1 ⟨r1, rfl, o1, b1⟩; obtain ⟨hc1, hf1⟩ := bxcell b1; have q1_0 := fun o => hc1 (w.heap.size) o (by first | omega | (simp; done) | (simp; omega)); have f1_0 := fun o => hf1 (w.heap.size) o (by first | omega | (simp; done) | (simp; omega)); have hz1 := b1.size; (try simp at hz1); have z1_0 : w.heap.size < w1.heap.size := (by omega); have n1_0 := Nat.ne_of_lt z1_0; have m1_0 := (Nat.ne_of_lt z1_0).symm
        rw [HL.out] at o1
        obtain ⟨D1, d1, hv1, _, f1, g1⟩ := o1.form
        subst hv1
        obtain ⟨g, rfl, ga, gb⟩ := g1 (by simp)
        have SL := o1.sl
        obtain ⟨_, _, hvv, _, _, hcc⟩ := SL
        cases hvv
        obtain ⟨g', off', hgg, hcl⟩ := hcc (by simp)
        cases hgg
        have k1_0 : w1.cell? ⟨g, 0, none⟩ = some (.string a) := by simpa using hcl 0 a rfl
        have k1_1 : w1.cell? ⟨g, 1, none⟩ = some (.string b) := by simpa using hcl 1 b rfl
        clear hcl hcc
        clear o1 g1 f1
        go_wp2_with fail
        (with_reducible refine (impl_ParseBigInt a _ (by have := HSA.out; omega)).mono ?_); rintro e w2 ⟨A2, n2, c2, rfl, o2, b2⟩; obtain ⟨hc2, hf2⟩ := bxcell b2; have q2_0 := fun o => hc2 (w.heap.size) o (by first | omega | (simp; done) | (simp; omega)); have q2_1 := fun o => hc2 (g) o (by first | omega | (simp; done) | (simp; omega)); have f2_0 := fun o => hf2 (w.heap.size) o (by first | omega | (simp; done) | (simp; omega)); have f2_1 := fun o => hf2 (g) o (by first | omega | (simp; done) | (simp; omega)); have hz2 := b2.size; (try simp at hz2); have z2_0 : w.heap.size < w2.heap.size := (by omega); have n2_0 := Nat.ne_of_lt z2_0; have m2_0 := (Nat.ne_of_lt z2_0).symm; have z2_1 : g < w2.heap.size := (by omega); have n2_1 := Nat.ne_of_lt z2_1; have m2_1 := (Nat.ne_of_lt z2_1).symm
        have ca1_2_0 := ca1 z2_0
        have ca2_2_0 := ca2 z2_0
        have ca3_2_0 := ca3 z2_0
        have ca1_2_1 := ca1 z2_1
        have ca2_2_1 := ca2 z2_1
        have ca3_2_1 := ca3 z2_1
        have fz2_0 : ∀ o, w2.frozen? ⟨w.heap.size, o, none⟩ = false := fun o => by rw [f2_0, f1_0]; simp [go_sem]
        clear f1_0 f2_0 hf1 hf2
        have hfa := fun (u : World) (c : Array Value) (t : TypeId) (o : Nat) => frozen?_alloc_cells u c t ⟨w.heap.size, o, none⟩
        have nn2_0 : w.heap.size ≠ w2.heap.size + 1 := by omega
        have mm2_0 : w2.heap.size + 1 ≠ w.heap.size := by omega
        have nn2_1 : w.heap.size ≠ w2.heap.size + 1 + 1 := by omega
        have mm2_1 : w2.heap.size + 1 + 1 ≠ w.heap.size := by omega
        have nn2_2 : g ≠ w2.heap.size + 1 := by omega
        have mm2_2 : w2.heap.size + 1 ≠ g := by omega
        have nn2_3 : g ≠ w2.heap.size + 1 + 1 := by omega
        have mm2_3 : w2.heap.size + 1 + 1 ≠ g := by omega
        rw [HZ.out] at o2 ⊢
        have O2 := Lib.hid ((OwnR.of o2).wide (lo' := w1.heap.size) (by first | omega | (simp; done) | (simp; omega)) (Nat.le_refl _))
        clear o2
        go_wp2_with fail
        (with_reducible refine (impl_ParseNat b _ (by have := HSB.out; unfold maxLen; omega)).mono ?_); rintro e w3 ⟨r3, rfl, o3, b3⟩; obtain ⟨hc3, hf3⟩ := bxcell b3; have q3_0 := fun o => hc3 (w.heap.size) o (by first | omega | (simp; done) | (simp; omega)); have q3_1 := fun o => hc3 (w2.heap.size) o (by first | omega | (simp; done) | (simp; omega)); have q3_2 := fun o => hc3 (w2.heap.size + 1 + 1) o (by first | omega | (simp; done) | (simp; omega)); have f3_0 := fun o => hf3 (w.heap.size) o (by first | omega | (simp; done) | (simp; omega)); have f3_1 := fun o => hf3 (w2.heap.size) o (by first | omega | (simp; done) | (simp; omega)); have f3_2 := fun o => hf3 (w2.heap.size + 1 + 1) o (by first | omega | (simp; done) | (simp; omega)); have hz3 := b3.size; (try simp at hz3); have z3_0 : w.heap.size < w3.heap.size := (by omega); have n3_0 := Nat.ne_of_lt z3_0; have m3_0 := (Nat.ne_of_lt z3_0).symm; have z3_1 : w2.heap.size < w3.heap.size := (by omega); have n3_1 := Nat.ne_of_lt z3_1; have m3_1 := (Nat.ne_of_lt z3_1).symm; have z3_2 : w2.heap.size + 1 + 1 < w3.heap.size := (by omega); have n3_2 := Nat.ne_of_lt z3_2; have m3_2 := (Nat.ne_of_lt z3_2).symm
        have ca1_3_0 := ca1 z3_0
        have ca2_3_0 := ca2 z3_0
        have ca3_3_0 := ca3 z3_0
        have ca1_3_1 := ca1 z3_1
        have ca2_3_1 := ca2 z3_1
        have ca3_3_1 := ca3 z3_1
        have ca1_3_2 := ca1 z3_2
        have ca2_3_2 := ca2 z3_2
        have ca3_3_2 := ca3 z3_2
        have nn3_0 : w.heap.size ≠ w3.heap.size + 1 := by omega
        have mm3_0 : w3.heap.size + 1 ≠ w.heap.size := by omega
        have nn3_1 : w.heap.size ≠ w3.heap.size + 1 + 1 := by omega
        have mm3_1 : w3.heap.size + 1 + 1 ≠ w.heap.size := by omega
        have nn3_2 : w2.heap.size ≠ w3.heap.size + 1 := by omega
        have mm3_2 : w3.heap.size + 1 ≠ w2.heap.size := by omega
        have nn3_3 : w2.heap.size ≠ w3.heap.size + 1 + 1 := by omega
        have mm3_3 : w3.heap.size + 1 + 1 ≠ w2.heap.size := by omega
        have nn3_4 : w2.heap.size + 1 + 1 ≠ w3.heap.size + 1 := by omega
        have mm3_4 : w3.heap.size + 1 ≠ w2.heap.size + 1 + 1 := by omega
        have nn3_5 : w2.heap.size + 1 + 1 ≠ w3.heap.size + 1 + 1 := by omega
        have mm3_5 : w3.heap.size + 1 + 1 ≠ w2.heap.size + 1 + 1 := by omega
        rw [HY.out] at o3 ⊢
        obtain ⟨D3, d3, hv3, _, f3, _⟩ := o3.form
        subst hv3
        have O3 := Lib.hid ((OwnR.of o3).wide (lo' := w2.heap.size + 1 + 1 + 1) (by first | omega | (simp; done) | (simp; omega)) (Nat.le_refl _))
        clear o3 f3
        go_wp2
        refine bodyPost_ret (v := .tuple #[.agg #[.bool false, .slice none 0 0, .slice none 0 0], .bool false]) ?_ ?_ ?_
        · simp [results, Tryz.results5, go_sem, *]
        · rfl
        · exact retqb_no HR.out (by repeat' (first | (with_reducible exact Below.refl _ _) | (with_reducible refine Below.alloc ?_ ?_ _) | (with_reducible refine Below.setCell ?_ ?_ _) | (with_reducible refine below_drewN ?_ _) | (with_reducible refine Below.drew ?_) | (with_reducible refine below_step (by assumption) ?_ ?_) | omega | (simp; done) | (simp; omega)))
      | true =>
        go_enter Tryz.func5, Tryz.ntmps5
        go_wp2_with fail
        (with_reducible refine (impl_SplitAny s ⟨#[47]⟩ _ hs (by unfold maxLen; decide)).mono ?_); rintro e w1 ⟨r1, rfl, o1, b1⟩; obtain ⟨hc1, hf1⟩ := bxcell b1; have q1_0 := fun o => hc1 (w.heap.size) o (by first | omega | (simp; done) | (simp; omega)); have f1_0 := fun o => hf1 (w.heap.size) o (by first | omega | (simp; done) | (simp; omega)); have hz1 := b1.size; (try simp at hz1); have z1_0 : w.heap.size < w1.heap.size := (by omega); have n1_0 := Nat.ne_of_lt z1_0; have m1_0 := (Nat.ne_of_lt z1_0).symm
        rw [HL.out] at o1
        obtain ⟨D1, d1, hv1, _, f1, g1⟩ := o1.form
        subst hv1
        obtain ⟨g, rfl, ga, gb⟩ := g1 (by simp)
        have SL := o1.sl
        obtain ⟨_, _, hvv, _, _, hcc⟩ := SL
        cases hvv
        obtain ⟨g', off', hgg, hcl⟩ := hcc (by simp)
        cases hgg
        have k1_0 : w1.cell? ⟨g, 0, none⟩ = some (.string a) := by simpa using hcl 0 a rfl
        have k1_1 : w1.cell? ⟨g, 1, none⟩ = some (.string b) := by simpa using hcl 1 b rfl
        clear hcl hcc
        clear o1 g1 f1
        go_wp2_with fail
        (with_reducible refine (impl_ParseBigInt a _ (by have := HSA.out; omega)).mono ?_); rintro e w2 ⟨A2, n2, c2, rfl, o2, b2⟩; obtain ⟨hc2, hf2⟩ := bxcell b2; have q2_0 := fun o => hc2 (w.heap.size) o (by first | omega | (simp; done) | (simp; omega)); have q2_1 := fun o => hc2 (g) o (by first | omega | (simp; done) | (simp; omega)); have f2_0 := fun o => hf2 (w.heap.size) o (by first | omega | (simp; done) | (simp; omega)); have f2_1 := fun o => hf2 (g) o (by first | omega | (simp; done) | (simp; omega)); have hz2 := b2.size; (try simp at hz2); have z2_0 : w.heap.size < w2.heap.size := (by omega); have n2_0 := Nat.ne_of_lt z2_0; have m2_0 := (Nat.ne_of_lt z2_0).symm; have z2_1 : g < w2.heap.size := (by omega); have n2_1 := Nat.ne_of_lt z2_1; have m2_1 := (Nat.ne_of_lt z2_1).symm
        have ca1_2_0 := ca1 z2_0
        have ca2_2_0 := ca2 z2_0
        have ca3_2_0 := ca3 z2_0
        have ca1_2_1 := ca1 z2_1
        have ca2_2_1 := ca2 z2_1
        have ca3_2_1 := ca3 z2_1
        have fz2_0 : ∀ o, w2.frozen? ⟨w.heap.size, o, none⟩ = false := fun o => by rw [f2_0, f1_0]; simp [go_sem]
        clear f1_0 f2_0 hf1 hf2
        have hfa := fun (u : World) (c : Array Value) (t : TypeId) (o : Nat) => frozen?_alloc_cells u c t ⟨w.heap.size, o, none⟩
        have nn2_0 : w.heap.size ≠ w2.heap.size + 1 := by omega
        have mm2_0 : w2.heap.size + 1 ≠ w.heap.size := by omega
        have nn2_1 : w.heap.size ≠ w2.heap.size + 1 + 1 := by omega
        have mm2_1 : w2.heap.size + 1 + 1 ≠ w.heap.size := by omega
        have nn2_2 : g ≠ w2.heap.size + 1 := by omega
        have mm2_2 : w2.heap.size + 1 ≠ g := by omega
        have nn2_3 : g ≠ w2.heap.size + 1 + 1 := by omega
        have mm2_3 : w2.heap.size + 1 + 1 ≠ g := by omega
        rw [HZ.out] at o2 ⊢
        have O2 := Lib.hid ((OwnR.of o2).wide (lo' := w1.heap.size) (by first | omega | (simp; done) | (simp; omega)) (Nat.le_refl _))
        clear o2
        go_wp2_with fail
        (with_reducible refine (impl_ParseNat b _ (by have := HSB.out; unfold maxLen; omega)).mono ?_); rintro e w3 ⟨r3, rfl, o3, b3⟩; obtain ⟨hc3, hf3⟩ := bxcell b3; have q3_0 := fun o => hc3 (w.heap.size) o (by first | omega | (simp; done) | (simp; omega)); have q3_1 := fun o => hc3 (w2.heap.size) o (by first | omega | (simp; done) | (simp; omega)); have q3_2 := fun o => hc3 (w2.heap.size + 1 + 1) o (by first | omega | (simp; done) | (simp; omega)); have f3_0 := fun o => hf3 (w.heap.size) o (by first | omega | (simp; done) | (simp; omega)); have f3_1 := fun o => hf3 (w2.heap.size) o (by first | omega | (simp; done) | (simp; omega)); have f3_2 := fun o => hf3 (w2.heap.size + 1 + 1) o (by first | omega | (simp; done) | (simp; omega)); have hz3 := b3.size; (try simp at hz3); have z3_0 : w.heap.size < w3.heap.size := (by omega); have n3_0 := Nat.ne_of_lt z3_0; have m3_0 := (Nat.ne_of_lt z3_0).symm; have z3_1 : w2.heap.size < w3.heap.size := (by omega); have n3_1 := Nat.ne_of_lt z3_1; have m3_1 := (Nat.ne_of_lt z3_1).symm; have z3_2 : w2.heap.size + 1 + 1 < w3.heap.size := (by omega); have n3_2 := Nat.ne_of_lt z3_2; have m3_2 := (Nat.ne_of_lt z3_2).symm
        have ca1_3_0 := ca1 z3_0
        have ca2_3_0 := ca2 z3_0
        have ca3_3_0 := ca3 z3_0
        have ca1_3_1 := ca1 z3_1
        have ca2_3_1 := ca2 z3_1
        have ca3_3_1 := ca3 z3_1
        have ca1_3_2 := ca1 z3_2
        have ca2_3_2 := ca2 z3_2
        have ca3_3_2 := ca3 z3_2
        have nn3_0 : w.heap.size ≠ w3.heap.size + 1 := by omega
        have mm3_0 : w3.heap.size + 1 ≠ w.heap.size := by omega
        have nn3_1 : w.heap.size ≠ w3.heap.size + 1 + 1 := by omega
        have mm3_1 : w3.heap.size + 1 + 1 ≠ w.heap.size := by omega
        have nn3_2 : w2.heap.size ≠ w3.heap.size + 1 := by omega
        have mm3_2 : w3.heap.size + 1 ≠ w2.heap.size := by omega
        have nn3_3 : w2.heap.size ≠ w3.heap.size + 1 + 1 := by omega
        have mm3_3 : w3.heap.size + 1 + 1 ≠ w2.heap.size := by omega
        have nn3_4 : w2.heap.size + 1 + 1 ≠ w3.heap.size + 1 := by omega
        have mm3_4 : w3.heap.size + 1 ≠ w2.heap.size + 1 + 1 := by omega
        have nn3_5 : w2.heap.size + 1 + 1 ≠ w3.heap.size + 1 + 1 := by omega
        have mm3_5 : w3.heap.size + 1 + 1 ≠ w2.heap.size + 1 + 1 := by omega
        rw [HY.out] at o3 ⊢
        obtain ⟨D3, d3, hv3, _, f3, _⟩ := o3.form
        subst hv3
        have O3 := Lib.hid ((OwnR.of o3).wide (lo' := w2.heap.size + 1 + 1 + 1) (by first | omega | (simp; done) | (simp; omega)) (Nat.le_refl _))
        clear o3 f3
        cases hok : ratOkB (decide (z < 0)) (toL z.natAbs) ys with
        | false =>
          have HR := Lib.hid (pr_notok HC.out hok)
          go_wp2_with fail
          (with_reducible refine (impl_RatOk (decide (z < 0)) A2 D3 n2 c2 ys.length d3 (toL z.natAbs) ys _ (OwnR.here O2.out (by repeat' (first | (with_reducible exact Below.refl _ _) | (with_reducible refine Below.alloc ?_ ?_ _) | (with_reducible refine Below.setCell ?_ ?_ _) | (with_reducible refine below_drewN ?_ _) | (with_reducible refine Below.drew ?_) | (with_reducible refine below_step (by assumption) ?_ ?_) | omega | (simp; done) | (simp; omega)))).sl (show OwnR _ (w2.heap.size + 1 + 1 + 1) w3.heap.size 3 (.slice D3 ys.length d3) ys from (by have hfar := O3.out; repeat' (first | (with_reducible exact hfar) | (with_reducible refine OwnR.far ?_ _ _ ?_) | (with_reducible refine OwnR.allocd ?_ _ ?_) | (with_reducible refine OwnR.below ?_ b5 ?_) | (with_reducible refine OwnR.below ?_ b4 ?_) | (left; first | omega | (simp; done) | (simp; omega)) | (right; first | omega | (simp; done) | (simp; omega)) | omega | (simp; done) | (simp; omega)))).sl).mono ?_); rintro e w4 ⟨rfl, b4⟩; obtain ⟨hc4, hf4⟩ := bxcell b4; have q4_0 := fun o => hc4 (w.heap.size) o (by first | omega | (simp; done) | (simp; omega)); have q4_1 := fun o => hc4 (w2.heap.size + 1 + 1) o (by first | omega | (simp; done) | (simp; omega)); have f4_0 := fun o => hf4 (w.heap.size) o (by first | omega | (simp; done) | (simp; omega)); have f4_1 := fun o => hf4 (w2.heap.size + 1 + 1) o (by first | omega | (simp; done) | (simp; omega)); have hz4 := b4.size; (try simp at hz4); have z4_0 : w.heap.size < w4.heap.size := (by omega); have n4_0 := Nat.ne_of_lt z4_0; have m4_0 := (Nat.ne_of_lt z4_0).symm; have z4_1 : w2.heap.size + 1 + 1 < w4.heap.size := (by omega); have n4_1 := Nat.ne_of_lt z4_1; have m4_1 := (Nat.ne_of_lt z4_1).symm
          rw [hok]
          go_wp2
          refine bodyPost_ret (v := .tuple #[.agg #[.bool false, .slice none 0 0, .slice none 0 0], .bool false]) ?_ ?_ ?_
          · simp [results, Tryz.results5, go_sem, *]
          · rfl
          · exact retqb_no HR.out (by repeat' (first | (with_reducible exact Below.refl _ _) | (with_reducible refine Below.alloc ?_ ?_ _) | (with_reducible refine Below.setCell ?_ ?_ _) | (with_reducible refine below_drewN ?_ _) | (with_reducible refine Below.drew ?_) | (with_reducible refine below_step (by assumption) ?_ ?_) | omega | (simp; done) | (simp; omega)))
        | true =>
          obtain ⟨F, hF⟩ : ∃ F, F = fmtRatF (decide (z < 0)) (toL z.natAbs) ys := ⟨_, rfl⟩
          have HF := Lib.hid hF
          by_cases hfs : F = s
          · have HR := Lib.hid (pr_yes HC.out hok (by rw [← hF]; exact hfs))
            have hcmp := str_eq hfs
            have HOK := Lib.hid hok
            clear hfs hF hok
            go_wp2_with fail
            (with_reducible refine (impl_RatOk (decide (z < 0)) A2 D3 n2 c2 ys.length d3 (toL z.natAbs) ys _ (OwnR.here O2.out (by repeat' (first | (with_reducible exact Below.refl _ _) | (with_reducible refine Below.alloc ?_ ?_ _) | (with_reducible refine Below.setCell ?_ ?_ _) | (with_reducible refine below_drewN ?_ _) | (with_reducible refine Below.drew ?_) | (with_reducible refine below_step (by assumption) ?_ ?_) | omega | (simp; done) | (simp; omega)))).sl (show OwnR _ (w2.heap.size + 1 + 1 + 1) w3.heap.size 3 (.slice D3 ys.length d3) ys from (by have hfar := O3.out; repeat' (first | (with_reducible exact hfar) | (with_reducible refine OwnR.far ?_ _ _ ?_) | (with_reducible refine OwnR.allocd ?_ _ ?_) | (with_reducible refine OwnR.below ?_ b5 ?_) | (with_reducible refine OwnR.below ?_ b4 ?_) | (left; first | omega | (simp; done) | (simp; omega)) | (right; first | omega | (simp; done) | (simp; omega)) | omega | (simp; done) | (simp; omega)))).sl).mono ?_); rintro e w4 ⟨rfl, b4⟩; obtain ⟨hc4, hf4⟩ := bxcell b4; have q4_0 := fun o => hc4 (w.heap.size) o (by first | omega | (simp; done) | (simp; omega)); have q4_1 := fun o => hc4 (w2.heap.size + 1 + 1) o (by first | omega | (simp; done) | (simp; omega)); have f4_0 := fun o => hf4 (w.heap.size) o (by first | omega | (simp; done) | (simp; omega)); have f4_1 := fun o => hf4 (w2.heap.size + 1 + 1) o (by first | omega | (simp; done) | (simp; omega)); have hz4 := b4.size; (try simp at hz4); have z4_0 : w.heap.size < w4.heap.size := (by omega); have n4_0 := Nat.ne_of_lt z4_0; have m4_0 := (Nat.ne_of_lt z4_0).symm; have z4_1 : w2.heap.size + 1 + 1 < w4.heap.size := (by omega); have n4_1 := Nat.ne_of_lt z4_1; have m4_1 := (Nat.ne_of_lt z4_1).symm
            rw [HOK.out]
            go_wp2_with fail
            (with_reducible refine (impl_FormatRat (decide (z < 0)) A2 D3 n2 c2 ys.length d3 (toL z.natAbs) ys _ (OwnR.here O2.out (by repeat' (first | (with_reducible exact Below.refl _ _) | (with_reducible refine Below.alloc ?_ ?_ _) | (with_reducible refine Below.setCell ?_ ?_ _) | (with_reducible refine below_drewN ?_ _) | (with_reducible refine Below.drew ?_) | (with_reducible refine below_step (by assumption) ?_ ?_) | omega | (simp; done) | (simp; omega)))).sl (show OwnR _ (w2.heap.size + 1 + 1 + 1) w3.heap.size 3 (.slice D3 ys.length d3) ys from (by have hfar := O3.out; repeat' (first | (with_reducible exact hfar) | (with_reducible refine OwnR.far ?_ _ _ ?_) | (with_reducible refine OwnR.allocd ?_ _ ?_) | (with_reducible refine OwnR.below ?_ b5 ?_) | (with_reducible refine OwnR.below ?_ b4 ?_) | (left; first | omega | (simp; done) | (simp; omega)) | (right; first | omega | (simp; done) | (simp; omega)) | omega | (simp; done) | (simp; omega)))).sl (HT.out.below (by repeat' (first | (with_reducible exact Below.refl _ _) | (with_reducible refine Below.alloc ?_ ?_ _) | (with_reducible refine Below.setCell ?_ ?_ _) | (with_reducible refine below_drewN ?_ _) | (with_reducible refine Below.drew ?_) | (with_reducible refine below_step (by assumption) ?_ ?_) | omega | (simp; done) | (simp; omega))))).mono ?_); rintro e w5 ⟨rfl, b5⟩; obtain ⟨hc5, hf5⟩ := bxcell b5; have q5_0 := fun o => hc5 (w.heap.size) o (by first | omega | (simp; done) | (simp; omega)); have q5_1 := fun o => hc5 (w2.heap.size + 1 + 1) o (by first | omega | (simp; done) | (simp; omega)); have f5_0 := fun o => hf5 (w.heap.size) o (by first | omega | (simp; done) | (simp; omega)); have f5_1 := fun o => hf5 (w2.heap.size + 1 + 1) o (by first | omega | (simp; done) | (simp; omega)); have hz5 := b5.size; (try simp at hz5); have z5_0 : w.heap.size < w5.heap.size := (by omega); have n5_0 := Nat.ne_of_lt z5_0; have m5_0 := (Nat.ne_of_lt z5_0).symm; have z5_1 : w2.heap.size + 1 + 1 < w5.heap.size := (by omega); have n5_1 := Nat.ne_of_lt z5_1; have m5_1 := (Nat.ne_of_lt z5_1).symm
            rw [← HF.out]
            go_wp2
            have O24 := Lib.hid (show OwnR w5 _ _ _ _ _ from OwnR.here O2.out (by repeat' (first | (with_reducible exact Below.refl _ _) | (with_reducible refine Below.alloc ?_ ?_ _) | (with_reducible refine Below.setCell ?_ ?_ _) | (with_reducible refine below_drewN ?_ _) | (with_reducible refine Below.drew ?_) | (with_reducible refine below_step (by assumption) ?_ ?_) | omega | (simp; done) | (simp; omega))))
            have O34 := Lib.hid (show OwnR w5 (w2.heap.size + 1 + 1 + 1) w3.heap.size 3 (.slice D3 ys.length d3) ys from (by have hfar := O3.out; repeat' (first | (with_reducible exact hfar) | (with_reducible refine OwnR.far ?_ _ _ ?_) | (with_reducible refine OwnR.allocd ?_ _ ?_) | (with_reducible refine OwnR.below ?_ b5 ?_) | (with_reducible refine OwnR.below ?_ b4 ?_) | (left; first | omega | (simp; done) | (simp; omega)) | (right; first | omega | (simp; done) | (simp; omega)) | omega | (simp; done) | (simp; omega))))
            refine bodyPost_ret (v := .tuple #[.agg #[.bool (decide (z < 0)), .slice A2 n2 c2, .slice D3 ys.length d3], .bool true]) ?_ ?_ ?_
            · simp [results, Tryz.results5, go_sem, *]
            · rfl
            · exact retqb_yes (lo1 := w1.heap.size) (hi1 := w2.heap.size) (lo2 := w2.heap.size + 1 + 1 + 1) (hi2 := w3.heap.size) HR.out (by have hfar := O24.out; repeat' (first | (with_reducible exact hfar) | (with_reducible refine OwnR.far ?_ _ _ ?_) | (with_reducible refine OwnR.allocd ?_ _ ?_) | (left; first | omega | (simp; done) | (simp; omega)) | (right; first | omega | (simp; done) | (simp; omega)) | omega | (simp; done) | (simp; omega) | (exact hfar))) (by have hfar := O34.out; repeat' (first | (with_reducible exact hfar) | (with_reducible refine OwnR.far ?_ _ _ ?_) | (with_reducible refine OwnR.allocd ?_ _ ?_) | (left; first | omega | (simp; done) | (simp; omega)) | (right; first | omega | (simp; done) | (simp; omega)) | omega | (simp; done) | (simp; omega) | (exact hfar))) (by first | omega | (simp; done) | (simp; omega)) (by first | omega | (simp; done) | (simp; omega)) (by first | (left; first | omega | (simp; done) | (simp; omega)) | (right; first | omega | (simp; done) | (simp; omega))) (by first | omega | (simp; done) | (simp; omega)) (by first | omega | (simp; done) | (simp; omega)) (by first | omega | (simp; done) | (simp; omega)) (by first | omega | (simp; done) | (simp; omega)) (by repeat' (first | (with_reducible exact Below.refl _ _) | (with_reducible refine Below.alloc ?_ ?_ _) | (with_reducible refine Below.setCell ?_ ?_ _) | (with_reducible refine below_drewN ?_ _) | (with_reducible refine Below.drew ?_) | (with_reducible refine below_step (by assumption) ?_ ?_) | omega | (simp; done) | (simp; omega)))
          · have HR := Lib.hid (pr_other HC.out (by rw [← hF]; exact hfs))
            have hcmp := str_ne hfs
            have HOK := Lib.hid hok
            clear hfs hF hok
            go_wp2_with fail
            (with_reducible refine (impl_RatOk (decide (z < 0)) A2 D3 n2 c2 ys.length d3 (toL z.natAbs) ys _ (OwnR.here O2.out (by repeat' (first | (with_reducible exact Below.refl _ _) | (with_reducible refine Below.alloc ?_ ?_ _) | (with_reducible refine Below.setCell ?_ ?_ _) | (with_reducible refine below_drewN ?_ _) | (with_reducible refine Below.drew ?_) | (with_reducible refine below_step (by assumption) ?_ ?_) | omega | (simp; done) | (simp; omega)))).sl (show OwnR _ (w2.heap.size + 1 + 1 + 1) w3.heap.size 3 (.slice D3 ys.length d3) ys from (by have hfar := O3.out; repeat' (first | (with_reducible exact hfar) | (with_reducible refine OwnR.far ?_ _ _ ?_) | (with_reducible refine OwnR.allocd ?_ _ ?_) | (with_reducible refine OwnR.below ?_ b5 ?_) | (with_reducible refine OwnR.below ?_ b4 ?_) | (left; first | omega | (simp; done) | (simp; omega)) | (right; first | omega | (simp; done) | (simp; omega)) | omega | (simp; done) | (simp; omega)))).sl).mono ?_); rintro e w4 ⟨rfl, b4⟩; obtain ⟨hc4, hf4⟩ := bxcell b4; have q4_0 := fun o => hc4 (w.heap.size) o (by first | omega | (simp; done) | (simp; omega)); have q4_1 := fun o => hc4 (w2.heap.size + 1 + 1) o (by first | omega | (simp; done) | (simp; omega)); have f4_0 := fun o => hf4 (w.heap.size) o (by first | omega | (simp; done) | (simp; omega)); have f4_1 := fun o => hf4 (w2.heap.size + 1 + 1) o (by first | omega | (simp; done) | (simp; omega)); have hz4 := b4.size; (try simp at hz4); have z4_0 : w.heap.size < w4.heap.size := (by omega); have n4_0 := Nat.ne_of_lt z4_0; have m4_0 := (Nat.ne_of_lt z4_0).symm; have z4_1 : w2.heap.size + 1 + 1 < w4.heap.size := (by omega); have n4_1 := Nat.ne_of_lt z4_1; have m4_1 := (Nat.ne_of_lt z4_1).symm
            rw [HOK.out]
            go_wp2_with fail
            (with_reducible refine (impl_FormatRat (decide (z < 0)) A2 D3 n2 c2 ys.length d3 (toL z.natAbs) ys _ (OwnR.here O2.out (by repeat' (first | (with_reducible exact Below.refl _ _) | (with_reducible refine Below.alloc ?_ ?_ _) | (with_reducible refine Below.setCell ?_ ?_ _) | (with_reducible refine below_drewN ?_ _) | (with_reducible refine Below.drew ?_) | (with_reducible refine below_step (by assumption) ?_ ?_) | omega | (simp; done) | (simp; omega)))).sl (show OwnR _ (w2.heap.size + 1 + 1 + 1) w3.heap.size 3 (.slice D3 ys.length d3) ys from (by have hfar := O3.out; repeat' (first | (with_reducible exact hfar) | (with_reducible refine OwnR.far ?_ _ _ ?_) | (with_reducible refine OwnR.allocd ?_ _ ?_) | (with_reducible refine OwnR.below ?_ b5 ?_) | (with_reducible refine OwnR.below ?_ b4 ?_) | (left; first | omega | (simp; done) | (simp; omega)) | (right; first | omega | (simp; done) | (simp; omega)) | omega | (simp; done) | (simp; omega)))).sl (HT.out.below (by repeat' (first | (with_reducible exact Below.refl _ _) | (with_reducible refine Below.alloc ?_ ?_ _) | (with_reducible refine Below.setCell ?_ ?_ _) | (with_reducible refine below_drewN ?_ _) | (with_reducible refine Below.drew ?_) | (with_reducible refine below_step (by assumption) ?_ ?_) | omega | (simp; done) | (simp; omega))))).mono ?_); rintro e w5 ⟨rfl, b5⟩; obtain ⟨hc5, hf5⟩ := bxcell b5; have q5_0 := fun o => hc5 (w.heap.size) o (by first | omega | (simp; done) | (simp; omega)); have q5_1 := fun o => hc5 (w2.heap.size + 1 + 1) o (by first | omega | (simp; done) | (simp; omega)); have f5_0 := fun o => hf5 (w.heap.size) o (by first | omega | (simp; done) | (simp; omega)); have f5_1 := fun o => hf5 (w2.heap.size + 1 + 1) o (by first | omega | (simp; done) | (simp; omega)); have hz5 := b5.size; (try simp at hz5); have z5_0 : w.heap.size < w5.heap.size := (by omega); have n5_0 := Nat.ne_of_lt z5_0; have m5_0 := (Nat.ne_of_lt z5_0).symm; have z5_1 : w2.heap.size + 1 + 1 < w5.heap.size := (by omega); have n5_1 := Nat.ne_of_lt z5_1; have m5_1 := (Nat.ne_of_lt z5_1).symm
            rw [← HF.out]
            go_wp2
            refine bodyPost_ret (v := .tuple #[.agg #[.bool false, .slice none 0 0, .slice none 0 0], .bool false]) ?_ ?_ ?_
            · simp [results, Tryz.results5, go_sem, *]
            · rfl
            · exact retqb_no HR.out (by repeat' (first | (with_reducible exact Below.refl _ _) | (with_reducible refine Below.alloc ?_ ?_ _) | (with_reducible refine Below.setCell ?_ ?_ _) | (with_reducible refine below_drewN ?_ _) | (with_reducible refine Below.drew ?_) | (with_reducible refine below_step (by assumption) ?_ ?_) | omega | (simp; done) | (simp; omega)))
  · exact absurd h2 (by simp)
end Go.Proofs.YticekjagmcphbaaGreatDoor
