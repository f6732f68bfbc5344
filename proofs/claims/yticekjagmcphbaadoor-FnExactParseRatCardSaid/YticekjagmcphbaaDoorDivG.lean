/-
  Contracts: NatDiv of both packages. Written by an AI agent.
-/
import Derived.Test.YticekjagmcphbaaDoorDivF
import Derived.Test.YticekjagmcphbaaDoorDivT
namespace Go.Proofs.YticekjagmcphbaaDoor
open Go.RowKit

def natDivF (xs ys : List Int) : List Int × List Int := if okB xs = true ∧ okB ys = true ∧ 0 < ys.length then (toL ((val xs).toNat / (val ys).toNat), toL ((val xs).toNat % (val ys).toNat)) else ([], [])
theorem natDivF_toL {m n : Nat} (hm : okB (toL m) = true) (hn : okB (toL n) = true) (h : 0 < (toL n).length) : natDivF (toL m) (toL n) = (toL (m / n), toL (m % n)) := by
  unfold natDivF
  rw [if_pos ⟨hm, hn, h⟩, val_toL, val_toL, Int.toNat_natCast, Int.toNat_natCast]
theorem natDivF_len (xs ys : List Int) : (natDivF xs ys).1.length ≤ 60 ∧ (natDivF xs ys).2.length ≤ 60 := by
  unfold natDivF
  split
  · rename_i h
    have h1 := okB_iff.1 h.1
    have h2 := val_lt h1.2.1
    have h3 := pw_le h1.1
    have h4 := val_nonneg h1.2.1
    constructor
    · refine toL_len_lt (Nat.lt_of_le_of_lt (Nat.div_le_self _ _) ?_)
      omega
    · refine toL_len_lt (Nat.lt_of_le_of_lt (Nat.mod_le _ _) ?_)
      omega
  · simp
theorem ret_none {e : TypeId} {w : World} {p : List Int × List Int} (h : p = ([], [])) : RetTwo e p.1 p.2 w (.returned (.tuple #[.slice none 0 0, .slice none 0 0])) w := by
  rw [h]
  exact ⟨_, _, w.heap.size, w.heap.size, w.heap.size, w.heap.size, rfl, ⟨Own.nil _ _ _, fun k hk => by cases hk⟩, ⟨Own.nil _ _ _, fun k hk => by cases hk⟩, Nat.le_refl _, Nat.le_refl _, .inl (Nat.le_refl _), Nat.le_refl _, Nat.le_refl _, Below.refl _ _, Nat.le_refl _, Nat.le_refl _⟩


set_option maxHeartbeats 1000000 in
theorem impl_NatDiv (u v : Value) (xs ys : List Int) (w : World) (hu : Sl w u xs) (hv : Sl w v ys) :
    Calls Tryd.prog 41 #[u, v] w (RetTwo 3 (natDivF xs ys).1 (natDivF xs ys).2 w) := by
  cases hx : okB xs with
  | false =>
    have HR := Lib.hid (show natDivF xs ys = ([], []) by unfold natDivF; rw [if_neg (by rw [hx]; simp)])
    go_enter Tryd.func41, Tryd.ntmps41
    go_wp2_with fail
    refine (impl_NatOk _ xs _ hu).mono ?_
    rintro e w1 ⟨rfl, rfl⟩
    go_wp2
    go_ret2
    exact ret_none HR.out
  | true =>
    cases hy : okB ys with
    | false =>
      have HR := Lib.hid (show natDivF xs ys = ([], []) by unfold natDivF; rw [if_neg (by rw [hy]; simp)])
      go_enter Tryd.func41, Tryd.ntmps41
      go_wp2_with fail
      refine (impl_NatOk _ xs _ hu).mono ?_
      rintro e w1 ⟨rfl, rfl⟩
      go_wp2_with fail
      refine (impl_NatOk _ ys _ hv).mono ?_
      rintro e w1 ⟨rfl, rfl⟩
      go_wp2
      go_ret2
      exact ret_none HR.out
    | true =>
      have huu := Lib.hid hu
      have hvv := Lib.hid hv
      obtain ⟨A, c, rfl, g1, g2, g3⟩ := hv
      clear g1 g2 g3
      cases hz : ((ys.length : Int) == 0) with
      | true =>
        have hz0 : ys.length = 0 := by simpa using hz
        have HR := Lib.hid (show natDivF xs ys = ([], []) by unfold natDivF; rw [if_neg (by rw [hz0]; simp)])
        clear hz0
        go_enter Tryd.func41, Tryd.ntmps41
        go_wp2_with fail
        refine (impl_NatOk _ xs _ hu).mono ?_
        rintro e w1 ⟨rfl, rfl⟩
        go_wp2_with fail
        refine (impl_NatOk _ ys _ hvv.out).mono ?_
        rintro e w1 ⟨rfl, rfl⟩
        go_wp2
        go_ret2
        exact ret_none HR.out
      | false =>
        obtain ⟨m, rfl, hm⟩ := okB_toL hx
        obtain ⟨n, rfl, hn⟩ := okB_toL hy
        have hpos : 0 < (toL n).length := by
          have : (toL n).length ≠ 0 := by
            intro h0
            rw [h0] at hz
            cases hz
          omega
        have h0 : 0 < n := by
          rcases Nat.eq_zero_or_pos n with h1 | h1
          · rw [h1, toL_zero] at hpos
            cases hpos
          · exact h1
        have HR := Lib.hid (natDivF_toL hx hy hpos)
        have H0 := Lib.hid h0
        have HM := Lib.hid (lt200 hm)
        have HN := Lib.hid (show n < pw 150 from Nat.lt_of_lt_of_le hn (pw_le (by omega)))
        clear hpos h0 hm hn
        go_enter Tryd.func41, Tryd.ntmps41
        go_wp2_with fail
        refine (impl_NatOk _ _ _ hu).mono ?_
        rintro e w1 ⟨rfl, rfl⟩
        go_wp2_with fail
        refine (impl_NatOk _ _ _ hvv.out).mono ?_
        rintro e w1 ⟨rfl, rfl⟩
        go_wp2_with fail
        refine (impl_natDiv _ _ m n _ hu hvv.out H0.out HM.out HN.out).mono ?_
        rintro e w1 ⟨r1, s1, lo1, hi1, lo2, hi2, rfl, hrest⟩
        have HE := Lib.hid hrest
        clear hrest
        go_wp2
        go_ret2
        rw [HR.out]
        exact ⟨_, _, lo1, hi1, lo2, hi2, rfl, HE.out⟩

end Go.Proofs.YticekjagmcphbaaDoor
