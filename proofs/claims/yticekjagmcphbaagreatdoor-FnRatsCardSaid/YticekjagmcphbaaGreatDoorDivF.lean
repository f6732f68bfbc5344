/-
  Contracts: natDiv, every way. Written by an AI agent.
-/
import Derived.Test.YticekjagmcphbaaGreatDoorDiv
namespace Go.Proofs.YticekjagmcphbaaGreatDoor
open Go.RowKit

set_option maxHeartbeats 4000000 in
theorem impl_natDivShort (u v : Value) (m n : Nat) (w : World) (hu : Sl w u (toL m)) (hv : Sl w v (toL n)) (h0 : 0 < n) (hx : (toL m).length ≤ 2) (hy : (toL n).length ≤ 2) :
    Calls Tryz.prog 53 #[u, v] w (RetTwo 3 (toL (m / n)) (toL (m % n)) w) := by
  have huu := hu
  have hvv := hv
  obtain ⟨A, c, rfl, h1, h2, h3⟩ := hu
  obtain ⟨A', c', rfl, h1', h2', h3'⟩ := hv
  have hm : m ≤ maxInt := by
    have h := toL_len_le.1 hx
    have h8 : pw 2 = 1000000000000000000 := rfl
    unfold maxInt
    omega
  have hn : n ≤ maxInt := by
    have h := toL_len_le.1 hy
    have h8 : pw 2 = 1000000000000000000 := rfl
    unfold maxInt
    omega
  clear h1 h2 h3 h1' h2' h3'
  generalize hxl : (toL m).length = xl at *
  generalize hyl : (toL n).length = yl at *
  clear hxl hyl
  obtain ⟨x, hxm⟩ : ∃ x : Int, x = (m : Int) := ⟨_, rfl⟩
  obtain ⟨y, hyn⟩ : ∃ y : Int, y = (n : Int) := ⟨_, rfl⟩
  have hq : ((m / n : Nat) : Int) = x / y := by rw [hxm, hyn]; exact Int.natCast_ediv m n
  have hr : ((m % n : Nat) : Int) = x % y := by rw [hxm, hyn]; exact Int.natCast_emod m n
  have hq1 : (m / n) ≤ maxInt := Nat.le_trans (Nat.div_le_self m n) hm
  have hr1 : (m % n) ≤ maxInt := Nat.le_trans (Nat.mod_le m n) hm
  have hsx := impl_natSmall _ m w huu hm
  have hsy := impl_natSmall _ n w hvv hn
  rw [← hxm] at hsx
  rw [← hyn] at hsy
  have x0 : 0 ≤ x := by omega
  have y0 : 1 ≤ y := by omega
  have hnz : (y == 0) = false := by simp; omega
  have x1 : x ≤ 9223372036854775807 := by unfold maxInt at hm; omega
  have y1 : y ≤ 9223372036854775807 := by unfold maxInt at hn; omega
  have q0 : 0 ≤ x / y := by rw [← hq]; exact Int.natCast_nonneg _
  have r0 : 0 ≤ x % y := by rw [← hr]; exact Int.natCast_nonneg _
  have q1 : x / y ≤ 9223372036854775807 := by rw [← hq]; unfold maxInt at hq1; omega
  have r1 : x % y ≤ 9223372036854775807 := by rw [← hr]; unfold maxInt at hr1; omega
  have HQ := Lib.hid (show (x / y).toNat = m / n by omega)
  have HRR := Lib.hid (show (x % y).toNat = m % n by omega)
  have HX := Lib.hid hsx
  have HY := Lib.hid hsy
  have hyz : ¬ y = 0 := by omega
  have ht1 : x.tmod y = x % y := Int.tmod_eq_emod_of_nonneg x0
  have ht2 : x.tdiv y = x / y := Int.tdiv_eq_ediv_of_nonneg x0
  have hw1 : IntKind.u64.wrap (x / y) = x / y := IntWalk.u64_in _ (by omega)
  have hw2 : IntKind.u64.wrap (x % y) = x % y := IntWalk.u64_in _ (by omega)
  have hw3 : IntKind.i64.wrap (x / y) = x / y := IntWalk.i64_in _ (by omega)
  have hw4 : IntKind.i64.wrap (x % y) = x % y := IntWalk.i64_in _ (by omega)
  clear hq hr hm hn hq1 hr1 h0 huu hvv hsx hsy hxm hyn
  go_enter Tryz.func53, Tryz.ntmps53
  go_wp2_with fail
  refine HX.out.mono ?_
  rintro e w1 ⟨rfl, rfl⟩
  go_wp2_with fail
  refine HY.out.mono ?_
  rintro e w1 ⟨rfl, rfl⟩
  go_wp2_with fail
  go_region_held3 (fun _ => True) (exact trivial)
    (first
      | (go_at_call 52; have hq := b1; refine (impl_natOfUintI _ _ ?_ ?_).mono ?_; (first | exact q0 | exact r0); omega; rintro e w2 ⟨r2, rfl, o2, b2⟩)
      | (go_at_call 52; refine (impl_natOfUintI _ _ ?_ ?_).mono ?_; (first | exact q0 | exact r0); omega; rintro e w1 ⟨r1, rfl, o1, b1⟩))
  all_goals
    have b12 : Below w.heap.size w w2 := (show Below w.heap.size w w1 from ⟨b1.os, b1.tape, b1.output, b1.size, b1.block⟩).trans (b2.mono b1.size)
    have s1 := b1.size
    have s2 := b2.size
    first
      | (have O1 := Lib.hid (HQ.out ▸ o1); have O2 := Lib.hid (HRR.out ▸ o2)
         clear o1 o2
         go_wp2
         go_ret2
         exact ⟨_, _, w.heap.size, w1.heap.size, w1.heap.size, w2.heap.size, rfl, (OwnR.of O1.out).below b2 (Nat.le_refl _), OwnR.of O2.out, Nat.le_refl _, s1, .inl (Nat.le_refl _), s2, Nat.le_refl _, b12, s1, s2⟩)
      | (have O1 := Lib.hid (HRR.out ▸ o1); have O2 := Lib.hid (HQ.out ▸ o2)
         clear o1 o2
         go_wp2
         go_ret2
         exact ⟨_, _, w1.heap.size, w2.heap.size, w.heap.size, w1.heap.size, rfl, OwnR.of O2.out, (OwnR.of O1.out).below b2 (Nat.le_refl _), s1, Nat.le_refl _, .inr (Nat.le_refl _), Nat.le_refl _, s2, b12, s2, s1⟩)

theorem impl_natDiv (u v : Value) (m n : Nat) (w : World) (hu : Sl w u (toL m)) (hv : Sl w v (toL n)) (h0 : 0 < n) (hm : m < pw 200) (hn : n < pw 150) :
    Calls Tryz.prog 53 #[u, v] w (RetTwo 3 (toL (m / n)) (toL (m % n)) w) := by
  rcases Nat.lt_or_ge 2 (toL m).length with h | h
  · exact impl_natDivLongA u v m n w hu hv h0 hm hn h
  · rcases Nat.lt_or_ge 2 (toL n).length with h' | h'
    · exact impl_natDivLongB u v m n w hu hv h0 hm hn h h'
    · exact impl_natDivShort u v m n w hu hv h0 h h'
end Go.Proofs.YticekjagmcphbaaGreatDoor
