/-
  Contracts: BigIntToInt of both packages. Written by an AI agent.
-/
import Derived.Test.YthpfmeipppncmaaBigOk
import Derived.Test.YthpfmeipppncmaaBigZF
import Derived.Test.YthpfmeipppncmaaToInt
namespace Go.Proofs.Ythpfmeipppncmaa
open Go.RowKit

def bigToIntF (s : Bool) (xs : List Int) : Int × Bool := if bigOk s xs && (natToIntF xs).2 then (zv s xs, true) else (0, false)
theorem toInt_bad {s : Bool} {xs : List Int} (h : bigOk s xs = false) : bigToIntF s xs = (0, false) := by unfold bigToIntF; rw [h]; rfl
theorem toInt_big {s : Bool} {xs : List Int} (h : (natToIntF xs).2 = false) : bigToIntF s xs = (0, false) := by unfold bigToIntF; rw [h, Bool.and_false]; rfl
theorem toInt_good {s : Bool} {xs : List Int} (h1 : bigOk s xs = true) (h : (natToIntF xs).2 = true) : bigToIntF s xs = (if s then -(natToIntF xs).1 else (natToIntF xs).1, true) := by
  unfold bigToIntF
  rw [h1, h]
  have hv : (natToIntF xs).1 = val xs ∧ 0 ≤ val xs := by
    unfold natToIntF at h ⊢
    split
    · rename_i hc
      exact ⟨rfl, val_nonneg (okB_iff.1 hc.1).2.1⟩
    · rename_i hc
      rw [if_neg hc] at h
      cases h
  rw [hv.1]
  have hz : zv s xs = if s then -(val xs) else val xs := by
    unfold zv bigZ
    rw [Int.toNat_of_nonneg hv.2]
  rw [hz]
  rfl
theorem natToInt_zero {xs : List Int} (h : (natToIntF xs).2 = false) : (natToIntF xs).1 = 0 := by
  unfold natToIntF at h ⊢
  split
  · rename_i hc
    rw [if_pos hc] at h
    cases h
  · rfl
theorem natToInt_range (xs : List Int) : 0 ≤ (natToIntF xs).1 ∧ (natToIntF xs).1 ≤ 9223372036854775807 := by
  unfold natToIntF
  split
  · rename_i hc
    have := val_nonneg (okB_iff.1 hc.1).2.1
    have h2 := hc.2
    unfold maxInt at h2
    constructor
    · exact this
    · show val xs ≤ _
      omega
  · exact ⟨Int.le_refl _, by show (0 : Int) ≤ _; omega⟩
theorem ret_ib2 {a b : Int} {c d : Bool} {p : Int × Bool} (h : p = (a, c)) (e1 : b = a) (e2 : d = c) : Ending.returned (.tuple #[.int .i64 b, .bool d]) = .returned (.tuple #[.int .i64 p.1, .bool p.2]) := by
  subst h e1 e2
  rfl

set_option maxHeartbeats 2000000 in
theorem impl_BigIntToInt (s : Bool) (A : Option Addr) (n c : Nat) (xs : List Int) (w : World) (hu : Sl w (.slice A n c) xs) :
    Calls Try.prog 44 #[.agg #[.bool s, .slice A n c]] w fun e w' => e = .returned (.tuple #[.int .i64 (bigToIntF s xs).1, .bool (bigToIntF s xs).2]) ∧ Below w.heap.size w w' := by
  have HU := Lib.hid hu
  clear hu
  cases hx : bigOk s xs with
  | false =>
    have HR := Lib.hid (toInt_bad hx)
    go_enter Try.func44, Try.ntmps44
    go_wp2_with fail
    (with_reducible refine (impl_BigIntOk s A n c xs _ (HU.out.below (by repeat' (first | (with_reducible exact Below.refl _ _) | (with_reducible refine Below.alloc ?_ ?_ _) | (with_reducible refine Below.setCell ?_ ?_ _) | (with_reducible refine below_drewN ?_ _) | (with_reducible refine Below.drew ?_) | (with_reducible refine below_step (by assumption) ?_ ?_) | omega | (simp; done) | (simp; omega))))).mono ?_); rintro e w1 ⟨rfl, b1⟩; obtain ⟨hc1, hf1⟩ := bxcell b1; have q1_0 := fun o => hc1 (w.heap.size) o (by first | omega | (simp; done) | (simp; omega)); have f1_0 := fun o => hf1 (w.heap.size) o (by first | omega | (simp; done) | (simp; omega)); have hz1 := b1.size; (try simp at hz1); have z1_0 : w.heap.size < w1.heap.size := (by omega); have n1_0 := Nat.ne_of_lt z1_0; have m1_0 := (Nat.ne_of_lt z1_0).symm
    rw [hx]
    go_wp2
    go_ret2
    exact ⟨ret_ib2 HR.out rfl rfl, (by repeat' (first | (with_reducible exact Below.refl _ _) | (with_reducible refine Below.alloc ?_ ?_ _) | (with_reducible refine Below.setCell ?_ ?_ _) | (with_reducible refine below_drewN ?_ _) | (with_reducible refine Below.drew ?_) | (with_reducible refine below_step (by assumption) ?_ ?_) | omega | (simp; done) | (simp; omega)))⟩
  | true =>
    have HX := Lib.hid hx
    have hrg := natToInt_range xs
    cases hk : (natToIntF xs).2 with
    | false =>
      have HR := Lib.hid (toInt_big (s := s) hk)
      have HZ := Lib.hid (natToInt_zero hk)
      have HK := Lib.hid hk
      clear hx hk hrg
      go_enter Try.func44, Try.ntmps44
      go_wp2_with fail
      (with_reducible refine (impl_BigIntOk s A n c xs _ (HU.out.below (by repeat' (first | (with_reducible exact Below.refl _ _) | (with_reducible refine Below.alloc ?_ ?_ _) | (with_reducible refine Below.setCell ?_ ?_ _) | (with_reducible refine below_drewN ?_ _) | (with_reducible refine Below.drew ?_) | (with_reducible refine below_step (by assumption) ?_ ?_) | omega | (simp; done) | (simp; omega))))).mono ?_); rintro e w1 ⟨rfl, b1⟩; obtain ⟨hc1, hf1⟩ := bxcell b1; have q1_0 := fun o => hc1 (w.heap.size) o (by first | omega | (simp; done) | (simp; omega)); have f1_0 := fun o => hf1 (w.heap.size) o (by first | omega | (simp; done) | (simp; omega)); have hz1 := b1.size; (try simp at hz1); have z1_0 : w.heap.size < w1.heap.size := (by omega); have n1_0 := Nat.ne_of_lt z1_0; have m1_0 := (Nat.ne_of_lt z1_0).symm
      rw [HX.out]
      go_wp2_with fail
      (with_reducible refine (impl_NatToInt _ xs _ (HU.out.below (by repeat' (first | (with_reducible exact Below.refl _ _) | (with_reducible refine Below.alloc ?_ ?_ _) | (with_reducible refine Below.setCell ?_ ?_ _) | (with_reducible refine below_drewN ?_ _) | (with_reducible refine Below.drew ?_) | (with_reducible refine below_step (by assumption) ?_ ?_) | omega | (simp; done) | (simp; omega))))).mono ?_); rintro e w2 ⟨rfl, b2⟩; obtain ⟨hc2, hf2⟩ := bxcell b2; have q2_0 := fun o => hc2 (w.heap.size) o (by first | omega | (simp; done) | (simp; omega)); have f2_0 := fun o => hf2 (w.heap.size) o (by first | omega | (simp; done) | (simp; omega)); have hz2 := b2.size; (try simp at hz2); have z2_0 : w.heap.size < w2.heap.size := (by omega); have n2_0 := Nat.ne_of_lt z2_0; have m2_0 := (Nat.ne_of_lt z2_0).symm
      rw [HK.out, HZ.out]
      go_wp2
      go_ret2
      exact ⟨ret_ib2 HR.out rfl rfl, (by repeat' (first | (with_reducible exact Below.refl _ _) | (with_reducible refine Below.alloc ?_ ?_ _) | (with_reducible refine Below.setCell ?_ ?_ _) | (with_reducible refine below_drewN ?_ _) | (with_reducible refine Below.drew ?_) | (with_reducible refine below_step (by assumption) ?_ ?_) | omega | (simp; done) | (simp; omega)))⟩
    | true =>
      have HR := Lib.hid (toInt_good hx hk)
      have HK := Lib.hid hk
      obtain ⟨v, hv⟩ : ∃ v, v = (natToIntF xs).1 := ⟨_, rfl⟩
      rw [← hv] at hrg HR
      have HV := Lib.hid hv
      obtain ⟨r0, r1⟩ := hrg
      clear hx hk hv
      cases s
      all_goals
        go_enter Try.func44, Try.ntmps44
        go_wp2_with fail
        (with_reducible refine (impl_BigIntOk _ A n c xs _ (HU.out.below (by repeat' (first | (with_reducible exact Below.refl _ _) | (with_reducible refine Below.alloc ?_ ?_ _) | (with_reducible refine Below.setCell ?_ ?_ _) | (with_reducible refine below_drewN ?_ _) | (with_reducible refine Below.drew ?_) | (with_reducible refine below_step (by assumption) ?_ ?_) | omega | (simp; done) | (simp; omega))))).mono ?_); rintro e w1 ⟨rfl, b1⟩; obtain ⟨hc1, hf1⟩ := bxcell b1; have q1_0 := fun o => hc1 (w.heap.size) o (by first | omega | (simp; done) | (simp; omega)); have f1_0 := fun o => hf1 (w.heap.size) o (by first | omega | (simp; done) | (simp; omega)); have hz1 := b1.size; (try simp at hz1); have z1_0 : w.heap.size < w1.heap.size := (by omega); have n1_0 := Nat.ne_of_lt z1_0; have m1_0 := (Nat.ne_of_lt z1_0).symm
        rw [HX.out]
        go_wp2_with fail
        (with_reducible refine (impl_NatToInt _ xs _ (HU.out.below (by repeat' (first | (with_reducible exact Below.refl _ _) | (with_reducible refine Below.alloc ?_ ?_ _) | (with_reducible refine Below.setCell ?_ ?_ _) | (with_reducible refine below_drewN ?_ _) | (with_reducible refine Below.drew ?_) | (with_reducible refine below_step (by assumption) ?_ ?_) | omega | (simp; done) | (simp; omega))))).mono ?_); rintro e w2 ⟨rfl, b2⟩; obtain ⟨hc2, hf2⟩ := bxcell b2; have q2_0 := fun o => hc2 (w.heap.size) o (by first | omega | (simp; done) | (simp; omega)); have f2_0 := fun o => hf2 (w.heap.size) o (by first | omega | (simp; done) | (simp; omega)); have hz2 := b2.size; (try simp at hz2); have z2_0 : w.heap.size < w2.heap.size := (by omega); have n2_0 := Nat.ne_of_lt z2_0; have m2_0 := (Nat.ne_of_lt z2_0).symm
        rw [HK.out, ← HV.out]
        go_wp2
        go_ret2
        exact ⟨ret_ib2 HR.out rfl rfl, (by repeat' (first | (with_reducible exact Below.refl _ _) | (with_reducible refine Below.alloc ?_ ?_ _) | (with_reducible refine Below.setCell ?_ ?_ _) | (with_reducible refine below_drewN ?_ _) | (with_reducible refine Below.drew ?_) | (with_reducible refine below_step (by assumption) ?_ ?_) | omega | (simp; done) | (simp; omega)))⟩
set_option maxHeartbeats 2000000 in
theorem spec_BigIntToInt (s : Bool) (A : Option Addr) (n c : Nat) (xs : List Int) (w : World) (hu : Sl w (.slice A n c) xs) :
    Calls Try.prog 43 #[.agg #[.bool s, .slice A n c]] w fun e w' => e = .returned (.tuple #[.int .i64 (bigToIntF s xs).1, .bool (bigToIntF s xs).2]) ∧ Below w.heap.size w w' := by
  have HU := Lib.hid hu
  clear hu
  have hrg := natToInt_range xs
  cases hk : (natToIntF xs).2 with
  | false =>
    have HR := Lib.hid (toInt_big (s := s) hk)
    have HZ := Lib.hid (natToInt_zero hk)
    have HK := Lib.hid hk
    clear hk hrg
    go_enter Try.func43, Try.ntmps43
    go_wp2_with fail
    (with_reducible refine (spec_NatToInt _ xs _ (HU.out.below (by repeat' (first | (with_reducible exact Below.refl _ _) | (with_reducible refine Below.alloc ?_ ?_ _) | (with_reducible refine Below.setCell ?_ ?_ _) | (with_reducible refine below_drewN ?_ _) | (with_reducible refine Below.drew ?_) | (with_reducible refine below_step (by assumption) ?_ ?_) | omega | (simp; done) | (simp; omega))))).mono ?_); rintro e w2 ⟨rfl, b2⟩; obtain ⟨hc2, hf2⟩ := bxcell b2; have q2_0 := fun o => hc2 (w.heap.size) o (by first | omega | (simp; done) | (simp; omega)); have f2_0 := fun o => hf2 (w.heap.size) o (by first | omega | (simp; done) | (simp; omega)); have hz2 := b2.size; (try simp at hz2); have z2_0 : w.heap.size < w2.heap.size := (by omega); have n2_0 := Nat.ne_of_lt z2_0; have m2_0 := (Nat.ne_of_lt z2_0).symm
    rw [HK.out, HZ.out]
    go_wp2
    go_ret2
    exact ⟨ret_ib2 HR.out rfl rfl, (by repeat' (first | (with_reducible exact Below.refl _ _) | (with_reducible refine Below.alloc ?_ ?_ _) | (with_reducible refine Below.setCell ?_ ?_ _) | (with_reducible refine below_drewN ?_ _) | (with_reducible refine Below.drew ?_) | (with_reducible refine below_step (by assumption) ?_ ?_) | omega | (simp; done) | (simp; omega)))⟩
  | true =>
    have HK := Lib.hid hk
    obtain ⟨v, hv⟩ : ∃ v, v = (natToIntF xs).1 := ⟨_, rfl⟩
    cases hx : bigOk s xs with
    | false =>
      have HR := Lib.hid (toInt_bad hx)
      have HX := Lib.hid hx
      rw [← hv] at hrg
      have HV := Lib.hid hv
      obtain ⟨r0, r1⟩ := hrg
      clear hk hv hx
      go_enter Try.func43, Try.ntmps43
      go_wp2_with fail
      (with_reducible refine (spec_NatToInt _ xs _ (HU.out.below (by repeat' (first | (with_reducible exact Below.refl _ _) | (with_reducible refine Below.alloc ?_ ?_ _) | (with_reducible refine Below.setCell ?_ ?_ _) | (with_reducible refine below_drewN ?_ _) | (with_reducible refine Below.drew ?_) | (with_reducible refine below_step (by assumption) ?_ ?_) | omega | (simp; done) | (simp; omega))))).mono ?_); rintro e w2 ⟨rfl, b2⟩; obtain ⟨hc2, hf2⟩ := bxcell b2; have q2_0 := fun o => hc2 (w.heap.size) o (by first | omega | (simp; done) | (simp; omega)); have f2_0 := fun o => hf2 (w.heap.size) o (by first | omega | (simp; done) | (simp; omega)); have hz2 := b2.size; (try simp at hz2); have z2_0 : w.heap.size < w2.heap.size := (by omega); have n2_0 := Nat.ne_of_lt z2_0; have m2_0 := (Nat.ne_of_lt z2_0).symm
      rw [HK.out, ← HV.out]
      go_wp2_with fail
      (with_reducible refine (spec_BigIntOk s A n c xs _ (HU.out.below (by repeat' (first | (with_reducible exact Below.refl _ _) | (with_reducible refine Below.alloc ?_ ?_ _) | (with_reducible refine Below.setCell ?_ ?_ _) | (with_reducible refine below_drewN ?_ _) | (with_reducible refine Below.drew ?_) | (with_reducible refine below_step (by assumption) ?_ ?_) | omega | (simp; done) | (simp; omega))))).mono ?_); rintro e w3 ⟨rfl, b3⟩; obtain ⟨hc3, hf3⟩ := bxcell b3; have q3_0 := fun o => hc3 (w.heap.size) o (by first | omega | (simp; done) | (simp; omega)); have f3_0 := fun o => hf3 (w.heap.size) o (by first | omega | (simp; done) | (simp; omega)); have hz3 := b3.size; (try simp at hz3); have z3_0 : w.heap.size < w3.heap.size := (by omega); have n3_0 := Nat.ne_of_lt z3_0; have m3_0 := (Nat.ne_of_lt z3_0).symm
      rw [HX.out]
      go_wp2
      go_ret2
      exact ⟨ret_ib2 HR.out rfl rfl, (by repeat' (first | (with_reducible exact Below.refl _ _) | (with_reducible refine Below.alloc ?_ ?_ _) | (with_reducible refine Below.setCell ?_ ?_ _) | (with_reducible refine below_drewN ?_ _) | (with_reducible refine Below.drew ?_) | (with_reducible refine below_step (by assumption) ?_ ?_) | omega | (simp; done) | (simp; omega)))⟩
    | true =>
      have HR := Lib.hid (toInt_good hx hk)
      have HX := Lib.hid hx
      rw [← hv] at hrg HR
      have HV := Lib.hid hv
      obtain ⟨r0, r1⟩ := hrg
      clear hk hv hx
      cases s
      all_goals
        go_enter Try.func43, Try.ntmps43
        go_wp2_with fail
        (with_reducible refine (spec_NatToInt _ xs _ (HU.out.below (by repeat' (first | (with_reducible exact Below.refl _ _) | (with_reducible refine Below.alloc ?_ ?_ _) | (with_reducible refine Below.setCell ?_ ?_ _) | (with_reducible refine below_drewN ?_ _) | (with_reducible refine Below.drew ?_) | (with_reducible refine below_step (by assumption) ?_ ?_) | omega | (simp; done) | (simp; omega))))).mono ?_); rintro e w2 ⟨rfl, b2⟩; obtain ⟨hc2, hf2⟩ := bxcell b2; have q2_0 := fun o => hc2 (w.heap.size) o (by first | omega | (simp; done) | (simp; omega)); have f2_0 := fun o => hf2 (w.heap.size) o (by first | omega | (simp; done) | (simp; omega)); have hz2 := b2.size; (try simp at hz2); have z2_0 : w.heap.size < w2.heap.size := (by omega); have n2_0 := Nat.ne_of_lt z2_0; have m2_0 := (Nat.ne_of_lt z2_0).symm
        rw [HK.out, ← HV.out]
        go_wp2_with fail
        (with_reducible refine (spec_BigIntOk _ A n c xs _ (HU.out.below (by repeat' (first | (with_reducible exact Below.refl _ _) | (with_reducible refine Below.alloc ?_ ?_ _) | (with_reducible refine Below.setCell ?_ ?_ _) | (with_reducible refine below_drewN ?_ _) | (with_reducible refine Below.drew ?_) | (with_reducible refine below_step (by assumption) ?_ ?_) | omega | (simp; done) | (simp; omega))))).mono ?_); rintro e w3 ⟨rfl, b3⟩; obtain ⟨hc3, hf3⟩ := bxcell b3; have q3_0 := fun o => hc3 (w.heap.size) o (by first | omega | (simp; done) | (simp; omega)); have f3_0 := fun o => hf3 (w.heap.size) o (by first | omega | (simp; done) | (simp; omega)); have hz3 := b3.size; (try simp at hz3); have z3_0 : w.heap.size < w3.heap.size := (by omega); have n3_0 := Nat.ne_of_lt z3_0; have m3_0 := (Nat.ne_of_lt z3_0).symm
        rw [HX.out]
        go_wp2
        go_ret2
        exact ⟨ret_ib2 HR.out rfl rfl, (by repeat' (first | (with_reducible exact Below.refl _ _) | (with_reducible refine Below.alloc ?_ ?_ _) | (with_reducible refine Below.setCell ?_ ?_ _) | (with_reducible refine below_drewN ?_ _) | (with_reducible refine Below.drew ?_) | (with_reducible refine below_step (by assumption) ?_ ?_) | omega | (simp; done) | (simp; omega)))⟩
end Go.Proofs.Ythpfmeipppncmaa
