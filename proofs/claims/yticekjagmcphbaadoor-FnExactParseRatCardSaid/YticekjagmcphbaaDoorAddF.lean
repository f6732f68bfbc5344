/-
  Contracts: NatAdd. Written by an AI agent.
-/
import Derived.Test.YticekjagmcphbaaDoorAdd
namespace Go.Proofs.YticekjagmcphbaaDoor
open Go.RowKit

def natAddF (xs ys : List Int) : List Int := if okB xs = true ∧ okB ys = true then toL (limN ((val xs).toNat + (val ys).toNat)) else []
theorem natAddF_toL {m n : Nat} (hm : okB (toL m) = true) (hn : okB (toL n) = true) : natAddF (toL m) (toL n) = toL (limN (m + n)) := by
  unfold natAddF
  rw [if_pos ⟨hm, hn⟩, val_toL, val_toL, Int.toNat_natCast, Int.toNat_natCast]
theorem toL_lim_len (n : Nat) : (toL (limN n)).length ≤ 60 := toL_len_le.2 (limN_lt n)
theorem natAddF_len (xs ys : List Int) : (natAddF xs ys).length ≤ 60 := by
  unfold natAddF
  split
  · exact toL_lim_len _
  · simp
theorem lt200 {m : Nat} (h : m < pw 60) : m < pw 200 := Nat.lt_of_lt_of_le h (pw_le (by omega))

/-- The limit behind a call that made toL n. -/
theorem impl_limit (v : Value) (n lo : Nat) (w : World) (h : Own w lo 3 v (toL n)) :
    Calls Tryd.prog 86 #[v] w fun en w' => ∃ r, en = .returned r ∧ Own w' lo 3 r (toL (limN n)) ∧ w = w' := by
  obtain ⟨A, c, rfl, h1, h2, h3⟩ := h.form
  exact (impl_natLimit A c n w (by unfold maxLen at h2; omega)).mono fun _ _ ⟨he, hw⟩ => ⟨_, he, hw ▸ h.lim, hw⟩
theorem spec_limit (v : Value) (xs : List Int) (lo : Nat) (w : World) (h : Own w lo 3 v xs) (hl : Limbs xs) :
    Calls Tryd.prog 129 #[v] w fun en w' => ∃ r, en = .returned r ∧ Own w' lo 3 r (toL (limN (val xs).toNat)) ∧ w = w' := by
  obtain ⟨A, c, rfl, h1, h2, h3⟩ := h.form
  exact (spec_natCap A c xs w h.sl hl).mono fun _ _ ⟨he, hw⟩ => ⟨_, he, hw ▸ (h.trim hl).lim, hw⟩


theorem impl_NatAdd (u v : Value) (xs ys : List Int) (w : World) (hu : Sl w u xs) (hv : Sl w v ys) :
    Calls Tryd.prog 45 #[u, v] w (RetOwn 3 (natAddF xs ys) w) := by
  cases hx : okB xs with
  | false =>
    have HR := Lib.hid (show natAddF xs ys = [] by unfold natAddF; rw [if_neg (by rw [hx]; simp)])
    go_enter Tryd.func45, Tryd.ntmps45
    go_wp2_with fail
    refine (impl_NatOk _ xs _ hu).mono ?_
    rintro e w1 ⟨rfl, rfl⟩
    go_wp2
    go_ret
    exact ⟨_, rfl, by rw [HR.out]; exact Own.nil _ _ _, Below.refl _ _⟩
  | true =>
    cases hy : okB ys with
    | false =>
      have HR := Lib.hid (show natAddF xs ys = [] by unfold natAddF; rw [if_neg (by rw [hy]; simp)])
      go_enter Tryd.func45, Tryd.ntmps45
      go_wp2_with fail
      refine (impl_NatOk _ xs _ hu).mono ?_
      rintro e w1 ⟨rfl, rfl⟩
      go_wp2_with fail
      refine (impl_NatOk _ ys _ hv).mono ?_
      rintro e w1 ⟨rfl, rfl⟩
      go_wp2
      go_ret
      exact ⟨_, rfl, by rw [HR.out]; exact Own.nil _ _ _, Below.refl _ _⟩
    | true =>
      obtain ⟨m, rfl, hm⟩ := okB_toL hx
      obtain ⟨n, rfl, hn⟩ := okB_toL hy
      have HR := Lib.hid (natAddF_toL hx hy)
      go_enter Tryd.func45, Tryd.ntmps45
      go_wp2_with fail
      refine (impl_NatOk _ _ _ hu).mono ?_
      rintro e w1 ⟨rfl, rfl⟩
      go_wp2_with fail
      refine (impl_NatOk _ _ _ hv).mono ?_
      rintro e w1 ⟨rfl, rfl⟩
      go_wp2_with fail
      refine (impl_natAdd _ _ m n _ hu hv (lt200 hm) (lt200 hn)).mono ?_
      rintro e w1 ⟨r1, rfl, o1, b1⟩
      go_wp2_with fail
      refine (impl_limit _ _ _ _ o1).mono ?_
      rintro e w2 ⟨r2, rfl, o2, rfl⟩
      go_wp2
      go_ret
      exact ⟨_, rfl, by rw [HR.out]; exact o2, b1⟩

end Go.Proofs.YticekjagmcphbaaDoor
