/-
  Contracts: NatMul. Written by an AI agent.
-/
import Derived.Test.YticekjagmcphbaaDoorMul
namespace Go.Proofs.YticekjagmcphbaaDoor
open Go.RowKit

def natMulF (xs ys : List Int) : List Int := if okB xs = true ∧ okB ys = true then toL (limN ((val xs).toNat * (val ys).toNat)) else []
theorem natMulF_toL {m n : Nat} (hm : okB (toL m) = true) (hn : okB (toL n) = true) : natMulF (toL m) (toL n) = toL (limN (m * n)) := by
  unfold natMulF
  rw [if_pos ⟨hm, hn⟩, val_toL, val_toL, Int.toNat_natCast, Int.toNat_natCast]
theorem natMulF_len (xs ys : List Int) : (natMulF xs ys).length ≤ 60 := by
  unfold natMulF
  split
  · exact toL_lim_len _
  · simp


theorem impl_NatMul (u v : Value) (xs ys : List Int) (w : World) (hu : Sl w u xs) (hv : Sl w v ys) :
    Calls Tryd.prog 46 #[u, v] w (RetOwn 3 (natMulF xs ys) w) := by
  cases hx : okB xs with
  | false =>
    have HR := Lib.hid (show natMulF xs ys = [] by unfold natMulF; rw [if_neg (by rw [hx]; simp)])
    go_enter Tryd.func46, Tryd.ntmps46
    go_wp2_with fail
    refine (impl_NatOk _ xs _ hu).mono ?_
    rintro e w1 ⟨rfl, rfl⟩
    go_wp2
    go_ret
    exact ⟨_, rfl, by rw [HR.out]; exact Own.nil _ _ _, Below.refl _ _⟩
  | true =>
    cases hy : okB ys with
    | false =>
      have HR := Lib.hid (show natMulF xs ys = [] by unfold natMulF; rw [if_neg (by rw [hy]; simp)])
      go_enter Tryd.func46, Tryd.ntmps46
      go_wp2_with fail
      refine (impl_NatOk _ xs _ hu).mono ?_
      rintro e w1 ⟨rfl, rfl⟩
      go_wp2_with fail
      refine (impl_NatOk _ ys _ hv).mono ?_
      rintro e w1 ⟨rfl, rfl⟩
      go_wp2
      go_ret
      exact ⟨_, rfl, by rw [HR.out]; exact Own.nil _ _ _, Below.refl _ _⟩
    | true =>
      obtain ⟨m, rfl, hm⟩ := okB_toL hx
      obtain ⟨n, rfl, hn⟩ := okB_toL hy
      have HR := Lib.hid (natMulF_toL hx hy)
      go_enter Tryd.func46, Tryd.ntmps46
      go_wp2_with fail
      refine (impl_NatOk _ _ _ hu).mono ?_
      rintro e w1 ⟨rfl, rfl⟩
      go_wp2_with fail
      refine (impl_NatOk _ _ _ hv).mono ?_
      rintro e w1 ⟨rfl, rfl⟩
      go_wp2_with fail
      refine (impl_natMul _ _ m n _ hu hv (lt200 hm) (lt200 hn)).mono ?_
      rintro e w1 ⟨r1, rfl, o1, b1⟩
      go_wp2_with fail
      refine (impl_limit _ _ _ _ o1).mono ?_
      rintro e w2 ⟨r2, rfl, o2, rfl⟩
      go_wp2
      go_ret
      exact ⟨_, rfl, by rw [HR.out]; exact o2, b1⟩

end Go.Proofs.YticekjagmcphbaaDoor
