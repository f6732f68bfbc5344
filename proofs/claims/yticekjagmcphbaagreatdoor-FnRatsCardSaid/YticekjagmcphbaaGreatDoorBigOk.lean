/-
  Contracts: BigIntOk of both packages. Written by an AI agent.
-/
import Derived.Test.YticekjagmcphbaaGreatDoorBig
import Derived.Test.YticekjagmcphbaaGreatDoorNatOk2
namespace Go.Proofs.YticekjagmcphbaaGreatDoor
open Go.RowKit

theorem Sl.len {w : World} {A : Option Addr} {n c : Nat} {xs : List Int} (h : Sl w (.slice A n c) xs) : n = xs.length := by
  obtain ⟨A', c', hv, _⟩ := h
  cases hv
  rfl
def bigOk (s : Bool) (xs : List Int) : Bool := okB xs && !(s && xs.length == 0)


set_option maxHeartbeats 1000000 in
theorem impl_BigIntOk (s : Bool) (A : Option Addr) (n c : Nat) (xs : List Int) (w : World) (h : Sl w (.slice A n c) xs) :
    Calls Tryz.prog 37 #[.agg #[.bool s, .slice A n c]] w fun e w' => e = .returned (.bool (bigOk s xs)) ∧ Below w.heap.size w w' := by
  obtain rfl := h.len
  have HS := Lib.hid h
  cases hx : okB xs with
  | false =>
    have HR := Lib.hid (show bigOk s xs = false by unfold bigOk; rw [hx]; rfl)
    clear h
    go_enter Tryz.func37, Tryz.ntmps37
    go_wp2_with fail
    refine (impl_NatOk _ xs _ (HS.out.below (by repeat' (first | (with_reducible exact Below.refl _ _) | (with_reducible refine Below.alloc ?_ ?_ _) | (with_reducible refine Below.setCell ?_ ?_ _) | (with_reducible refine below_drewN ?_ _) | (with_reducible refine Below.drew ?_) | (with_reducible refine below_step (by assumption) ?_ ?_) | omega | (simp; done) | (simp; omega))))).mono ?_
    rintro e w1 ⟨rfl, rfl⟩
    rw [hx]
    go_wp2
    go_ret
    exact ⟨by rw [HR.out]; rfl, (by repeat' (first | (with_reducible exact Below.refl _ _) | (with_reducible refine Below.alloc ?_ ?_ _) | (with_reducible refine Below.setCell ?_ ?_ _) | (with_reducible refine below_drewN ?_ _) | (with_reducible refine Below.drew ?_) | (with_reducible refine below_step (by assumption) ?_ ?_) | omega | (simp; done) | (simp; omega)))⟩
  | true =>
    cases s with
    | false =>
      have HR := Lib.hid (show bigOk false xs = true by unfold bigOk; rw [hx]; rfl)
      clear h
      go_enter Tryz.func37, Tryz.ntmps37
      go_wp2_with fail
      refine (impl_NatOk _ xs _ (HS.out.below (by repeat' (first | (with_reducible exact Below.refl _ _) | (with_reducible refine Below.alloc ?_ ?_ _) | (with_reducible refine Below.setCell ?_ ?_ _) | (with_reducible refine below_drewN ?_ _) | (with_reducible refine Below.drew ?_) | (with_reducible refine below_step (by assumption) ?_ ?_) | omega | (simp; done) | (simp; omega))))).mono ?_
      rintro e w1 ⟨rfl, rfl⟩
      rw [hx]
      go_wp2
      go_ret
      exact ⟨by rw [HR.out]; rfl, (by repeat' (first | (with_reducible exact Below.refl _ _) | (with_reducible refine Below.alloc ?_ ?_ _) | (with_reducible refine Below.setCell ?_ ?_ _) | (with_reducible refine below_drewN ?_ _) | (with_reducible refine Below.drew ?_) | (with_reducible refine below_step (by assumption) ?_ ?_) | omega | (simp; done) | (simp; omega)))⟩
    | true =>
      by_cases hz : xs.length = 0
      · have HR := Lib.hid (show bigOk true xs = false by unfold bigOk; rw [hx, hz]; rfl)
        have hb : ((xs.length : Int) == 0) = true := by simpa using hz
        have hb2 : ¬ (0 : Int) < (xs.length : Int) := by omega
        clear h hz
        go_enter Tryz.func37, Tryz.ntmps37
        go_wp2_with fail
        refine (impl_NatOk _ xs _ (HS.out.below (by repeat' (first | (with_reducible exact Below.refl _ _) | (with_reducible refine Below.alloc ?_ ?_ _) | (with_reducible refine Below.setCell ?_ ?_ _) | (with_reducible refine below_drewN ?_ _) | (with_reducible refine Below.drew ?_) | (with_reducible refine below_step (by assumption) ?_ ?_) | omega | (simp; done) | (simp; omega))))).mono ?_
        rintro e w1 ⟨rfl, rfl⟩
        rw [hx]
        go_wp2
        go_ret
        exact ⟨by rw [HR.out]; first | rfl | exact ret_bool (decide_eq_false (by omega)), (by repeat' (first | (with_reducible exact Below.refl _ _) | (with_reducible refine Below.alloc ?_ ?_ _) | (with_reducible refine Below.setCell ?_ ?_ _) | (with_reducible refine below_drewN ?_ _) | (with_reducible refine Below.drew ?_) | (with_reducible refine below_step (by assumption) ?_ ?_) | omega | (simp; done) | (simp; omega)))⟩
      · have HR := Lib.hid (show bigOk true xs = true by unfold bigOk; rw [hx]; simp; exact fun h => hz (by rw [h]; rfl))
        have hb : ((xs.length : Int) == 0) = false := by simpa using hz
        have hb2 : (0 : Int) < (xs.length : Int) := by omega
        clear h hz
        go_enter Tryz.func37, Tryz.ntmps37
        go_wp2_with fail
        refine (impl_NatOk _ xs _ (HS.out.below (by repeat' (first | (with_reducible exact Below.refl _ _) | (with_reducible refine Below.alloc ?_ ?_ _) | (with_reducible refine Below.setCell ?_ ?_ _) | (with_reducible refine below_drewN ?_ _) | (with_reducible refine Below.drew ?_) | (with_reducible refine below_step (by assumption) ?_ ?_) | omega | (simp; done) | (simp; omega))))).mono ?_
        rintro e w1 ⟨rfl, rfl⟩
        rw [hx]
        go_wp2
        go_ret
        exact ⟨by rw [HR.out]; first | rfl | exact ret_bool (decide_eq_true (by omega)), (by repeat' (first | (with_reducible exact Below.refl _ _) | (with_reducible refine Below.alloc ?_ ?_ _) | (with_reducible refine Below.setCell ?_ ?_ _) | (with_reducible refine below_drewN ?_ _) | (with_reducible refine Below.drew ?_) | (with_reducible refine below_step (by assumption) ?_ ?_) | omega | (simp; done) | (simp; omega)))⟩

set_option maxHeartbeats 1000000 in
theorem spec_BigIntOk (s : Bool) (A : Option Addr) (n c : Nat) (xs : List Int) (w : World) (h : Sl w (.slice A n c) xs) :
    Calls Tryz.prog 61 #[.agg #[.bool s, .slice A n c]] w fun e w' => e = .returned (.bool (bigOk s xs)) ∧ Below w.heap.size w w' := by
  obtain rfl := h.len
  have HS := Lib.hid h
  cases hx : okB xs with
  | false =>
    have HR := Lib.hid (show bigOk s xs = false by unfold bigOk; rw [hx]; rfl)
    clear h
    go_enter Tryz.func61, Tryz.ntmps61
    go_wp2_with fail
    refine (spec_NatOk _ xs _ (HS.out.below (by repeat' (first | (with_reducible exact Below.refl _ _) | (with_reducible refine Below.alloc ?_ ?_ _) | (with_reducible refine Below.setCell ?_ ?_ _) | (with_reducible refine below_drewN ?_ _) | (with_reducible refine Below.drew ?_) | (with_reducible refine below_step (by assumption) ?_ ?_) | omega | (simp; done) | (simp; omega))))).mono ?_
    rintro e w1 ⟨rfl, rfl⟩
    rw [hx]
    go_wp2
    go_ret
    exact ⟨by rw [HR.out]; rfl, (by repeat' (first | (with_reducible exact Below.refl _ _) | (with_reducible refine Below.alloc ?_ ?_ _) | (with_reducible refine Below.setCell ?_ ?_ _) | (with_reducible refine below_drewN ?_ _) | (with_reducible refine Below.drew ?_) | (with_reducible refine below_step (by assumption) ?_ ?_) | omega | (simp; done) | (simp; omega)))⟩
  | true =>
    cases s with
    | false =>
      have HR := Lib.hid (show bigOk false xs = true by unfold bigOk; rw [hx]; rfl)
      clear h
      go_enter Tryz.func61, Tryz.ntmps61
      go_wp2_with fail
      refine (spec_NatOk _ xs _ (HS.out.below (by repeat' (first | (with_reducible exact Below.refl _ _) | (with_reducible refine Below.alloc ?_ ?_ _) | (with_reducible refine Below.setCell ?_ ?_ _) | (with_reducible refine below_drewN ?_ _) | (with_reducible refine Below.drew ?_) | (with_reducible refine below_step (by assumption) ?_ ?_) | omega | (simp; done) | (simp; omega))))).mono ?_
      rintro e w1 ⟨rfl, rfl⟩
      rw [hx]
      go_wp2
      go_ret
      exact ⟨by rw [HR.out]; rfl, (by repeat' (first | (with_reducible exact Below.refl _ _) | (with_reducible refine Below.alloc ?_ ?_ _) | (with_reducible refine Below.setCell ?_ ?_ _) | (with_reducible refine below_drewN ?_ _) | (with_reducible refine Below.drew ?_) | (with_reducible refine below_step (by assumption) ?_ ?_) | omega | (simp; done) | (simp; omega)))⟩
    | true =>
      by_cases hz : xs.length = 0
      · have HR := Lib.hid (show bigOk true xs = false by unfold bigOk; rw [hx, hz]; rfl)
        have hb : ((xs.length : Int) == 0) = true := by simpa using hz
        have hb2 : ¬ (0 : Int) < (xs.length : Int) := by omega
        clear h hz
        go_enter Tryz.func61, Tryz.ntmps61
        go_wp2_with fail
        refine (spec_NatOk _ xs _ (HS.out.below (by repeat' (first | (with_reducible exact Below.refl _ _) | (with_reducible refine Below.alloc ?_ ?_ _) | (with_reducible refine Below.setCell ?_ ?_ _) | (with_reducible refine below_drewN ?_ _) | (with_reducible refine Below.drew ?_) | (with_reducible refine below_step (by assumption) ?_ ?_) | omega | (simp; done) | (simp; omega))))).mono ?_
        rintro e w1 ⟨rfl, rfl⟩
        rw [hx]
        go_wp2
        go_ret
        exact ⟨by rw [HR.out]; first | rfl | exact ret_bool (decide_eq_false (by omega)), (by repeat' (first | (with_reducible exact Below.refl _ _) | (with_reducible refine Below.alloc ?_ ?_ _) | (with_reducible refine Below.setCell ?_ ?_ _) | (with_reducible refine below_drewN ?_ _) | (with_reducible refine Below.drew ?_) | (with_reducible refine below_step (by assumption) ?_ ?_) | omega | (simp; done) | (simp; omega)))⟩
      · have HR := Lib.hid (show bigOk true xs = true by unfold bigOk; rw [hx]; simp; exact fun h => hz (by rw [h]; rfl))
        have hb : ((xs.length : Int) == 0) = false := by simpa using hz
        have hb2 : (0 : Int) < (xs.length : Int) := by omega
        clear h hz
        go_enter Tryz.func61, Tryz.ntmps61
        go_wp2_with fail
        refine (spec_NatOk _ xs _ (HS.out.below (by repeat' (first | (with_reducible exact Below.refl _ _) | (with_reducible refine Below.alloc ?_ ?_ _) | (with_reducible refine Below.setCell ?_ ?_ _) | (with_reducible refine below_drewN ?_ _) | (with_reducible refine Below.drew ?_) | (with_reducible refine below_step (by assumption) ?_ ?_) | omega | (simp; done) | (simp; omega))))).mono ?_
        rintro e w1 ⟨rfl, rfl⟩
        rw [hx]
        go_wp2
        go_ret
        exact ⟨by rw [HR.out]; first | rfl | exact ret_bool (decide_eq_true (by omega)), (by repeat' (first | (with_reducible exact Below.refl _ _) | (with_reducible refine Below.alloc ?_ ?_ _) | (with_reducible refine Below.setCell ?_ ?_ _) | (with_reducible refine below_drewN ?_ _) | (with_reducible refine Below.drew ?_) | (with_reducible refine below_step (by assumption) ?_ ?_) | omega | (simp; done) | (simp; omega)))⟩

end Go.Proofs.YticekjagmcphbaaGreatDoor
