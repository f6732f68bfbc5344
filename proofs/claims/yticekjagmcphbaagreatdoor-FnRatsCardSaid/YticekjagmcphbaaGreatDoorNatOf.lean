/-
  Contracts: NatOf. Written by an AI agent.
-/
import Derived.Test.YticekjagmcphbaaGreatDoorNum
import Derived.Test.YticekjagmcphbaaGreatDoorApp
namespace Go.Proofs.YticekjagmcphbaaGreatDoor
open Go.RowKit

theorem app_cons {xs : List Int} {r m : Nat} (h : xs ++ toL r = toL m) (hr : 0 < r) : (xs ++ [((r % 1000000000 : Nat) : Int)]) ++ toL (r / 1000000000) = toL m := by
  rw [toL_pos hr] at h
  rw [← h, List.append_assoc]
  rfl
theorem app_len {xs : List Int} {r m : Nat} (h : xs ++ toL r = toL m) (hm : m < 18446744073709551616) : xs.length ≤ 3 := by
  have h1 := congrArg List.length h
  rw [List.length_append] at h1
  have h2 : (toL m).length ≤ 3 := toL_len_lt (by unfold pw; omega)
  omega
theorem app_last {xs : List Int} {m : Nat} (h : xs ++ toL 0 = toL m) : xs = toL m := by
  rw [toL_zero, List.append_nil] at h
  exact h

set_option maxHeartbeats 400000 in
theorem impl_natOfUint (m : Nat) (w : World) (hm : m < 18446744073709551616) :
    Calls Tryz.prog 52 #[.int .u64 (m : Int)] w (RetOwn 3 (toL m) w) := by
  have HM := Lib.hid hm; clear hm
  go_enter Tryz.func52, Tryz.ntmps52
  go_wp2
  go_loopw [0, 3] (fun n l wr => ∃ (r : Nat) (xs : List Int), n = .int .u64 (r : Int) ∧ r ≤ m ∧ xs ++ toL r = toL m ∧ Own wr w.heap.size 3 l xs ∧ Below w.heap.size w wr) (fun n _ _ => (intOf n).toNat)
  case atStart => exact ⟨m, [], rfl, Nat.le_refl _, rfl, own_empty w (Nat.le_refl _), (by repeat' (first | (with_reducible exact Below.refl _ _) | (with_reducible refine Below.alloc ?_ ?_ _) | (with_reducible refine Below.setCell ?_ ?_ _) | (with_reducible refine below_drewN ?_ _) | (with_reducible refine Below.drew ?_) | (with_reducible refine below_step (by assumption) ?_ ?_) | omega | (simp; done) | (simp; omega)))⟩
  case round =>
    obtain ⟨r, xs, rfl, hr, heq, hown, hb⟩ := hrel
    have hlen := app_len heq HM.out
    have HQ := Lib.hid heq; clear heq
    by_cases hpos : 0 < r
    · have hs := hb.size
      have hr2 : (r : Int) ≤ 18446744073709551615 := by have := HM.out; omega
      have hr3 : (0 : Int) < (r : Int) := by omega
      go_wp2_with (at_builtin; refine wpList_app1 _ rfl _ _ rfl Tryz.intP hown rfl rfl (by omega) hs ?_; intro v' w1 hown' hb' hg'; clear hown hg')
      go_roundw
      case rel => exact ⟨r / 1000000000, xs ++ [((r % 1000000000 : Nat) : Int)], by go_num, by omega, app_cons HQ.out hpos, by simpa using hown', hb.trans hb'⟩
      case measure => simp [intOf]; omega
    · obtain rfl : r = 0 := by omega
      have HO := Lib.hid hown; clear hown
      go_wp2
      go_ret
      exact ⟨_, rfl, by have := HO.out; rwa [app_last HQ.out] at this, hb⟩

set_option maxHeartbeats 400000 in
theorem spec_NatOf (n : Int) (w : World) (h1 : -9223372036854775808 ≤ n) (h2 : n ≤ 9223372036854775807) :
    Calls Tryz.prog 64 #[.int .i64 n] w (RetOwn 3 (toL n.toNat) w) := by
  have hm : n.toNat < 18446744073709551616 := by omega
  have HM := Lib.hid hm; clear hm
  go_enter Tryz.func64, Tryz.ntmps64
  go_wp2
  go_loopw [0, 3] (fun q l wr => ∃ (r : Int) (xs : List Int), q = .int .i64 r ∧ r ≤ n ∧ xs ++ toL r.toNat = toL n.toNat ∧ Own wr w.heap.size 3 l xs ∧ Below w.heap.size w wr) (fun n _ _ => (intOf n).toNat)
  case atStart => exact ⟨n, [], rfl, Int.le_refl _, rfl, own_empty w (Nat.le_refl _), (by repeat' (first | (with_reducible exact Below.refl _ _) | (with_reducible refine Below.alloc ?_ ?_ _) | (with_reducible refine Below.setCell ?_ ?_ _) | (with_reducible refine below_drewN ?_ _) | (with_reducible refine Below.drew ?_) | (with_reducible refine below_step (by assumption) ?_ ?_) | omega | (simp; done) | (simp; omega)))⟩
  case round =>
    obtain ⟨r, xs, rfl, hr, heq, hown, hb⟩ := hrel
    have hlen := app_len heq HM.out
    have HQ := Lib.hid heq; clear heq
    by_cases hpos : 0 < r
    · obtain ⟨k, rfl⟩ := Int.eq_ofNat_of_zero_le (show 0 ≤ r by omega)
      have hs := hb.size
      go_wp2_with (at_builtin; refine wpList_app1 _ rfl _ _ rfl Tryz.intP hown rfl rfl (by omega) hs ?_; intro v' w1 hown' hb' hg'; clear hown hg')
      go_roundw
      case rel => exact ⟨((k / 1000000000 : Nat) : Int), xs ++ [((k % 1000000000 : Nat) : Int)], by go_num, by omega, app_cons HQ.out (by omega), by simpa using hown', hb.trans hb'⟩
      case measure => simp [intOf]; omega
    · have HO := Lib.hid hown; clear hown
      have HZ := Lib.hid (show r.toNat = 0 by omega)
      go_wp2
      go_ret
      refine ⟨_, rfl, ?_, hb⟩
      have h := HQ.out
      rw [HZ.out] at h
      have := HO.out
      rwa [app_last h] at this
end Go.Proofs.YticekjagmcphbaaGreatDoor
