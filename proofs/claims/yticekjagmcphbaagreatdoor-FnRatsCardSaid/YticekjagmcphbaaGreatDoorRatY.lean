/-
  Contracts: RatNeg, RatMin, RatMax, RatSign, RatMake, both packages. Written by an AI agent.
-/
import Derived.Test.YticekjagmcphbaaGreatDoorRatX
namespace Go.Proofs.YticekjagmcphbaaGreatDoor
open Go.RowKit

theorem zv_num {s : Bool} {m : Nat} (h : m < pw 24) : (bigZ s m).natAbs < pw 24 := by rwa [bigZ_abs]
def ratNegF (s : Bool) (xs ys : List Int) : Int × Nat := if ratOkB s xs ys then (bigZ (!s) (dv xs), dv ys) else (0, 0)
theorem ratNegF_len (s : Bool) (xs ys : List Int) : (toL (ratNegF s xs ys).1.natAbs).length ≤ 2000000 ∧ (toL (ratNegF s xs ys).2).length ≤ 2000000 := by
  unfold ratNegF
  split
  · rename_i h
    obtain ⟨m, l, rfl, rfl, hm, h0, hl, _, _⟩ := ratOk_iff h
    rw [dv_toL, dv_toL]
    exact q_len (p := (bigZ (!s) m, l)) (zv_num hm) hl
  · exact zero_lenq
def ratPick (c : Bool) (s t : Bool) (xs ys us vs : List Int) : Int × Nat := if ratOkB s xs ys && ratOkB t us vs then (if c then (zv s xs, dv ys) else (zv t us, dv vs)) else (0, 0)
def ratMinF (s t : Bool) (xs ys us vs : List Int) : Int × Nat := ratPick (decide (ratCmpF s t xs ys us vs ≤ 0)) s t xs ys us vs
def ratMaxF (s t : Bool) (xs ys us vs : List Int) : Int × Nat := ratPick (decide (0 ≤ ratCmpF s t xs ys us vs)) s t xs ys us vs
theorem ratPick_len (c s t : Bool) (xs ys us vs : List Int) : (toL (ratPick c s t xs ys us vs).1.natAbs).length ≤ 2000000 ∧ (toL (ratPick c s t xs ys us vs).2).length ≤ 2000000 := by
  unfold ratPick
  split
  · rename_i h
    rw [Bool.and_eq_true] at h
    obtain ⟨m, l, rfl, rfl, hm, h0, hl, _, _⟩ := ratOk_iff h.1
    obtain ⟨m', l', rfl, rfl, hm', h0', hl', _, _⟩ := ratOk_iff h.2
    rw [zv_toL, zv_toL, dv_toL, dv_toL]
    split
    · exact q_len (p := (bigZ s m, l)) (zv_num hm) hl
    · exact q_len (p := (bigZ t m', l')) (zv_num hm') hl'
  · exact zero_lenq
theorem ratMinF_len (s t : Bool) (xs ys us vs : List Int) : (toL (ratMinF s t xs ys us vs).1.natAbs).length ≤ 2000000 ∧ (toL (ratMinF s t xs ys us vs).2).length ≤ 2000000 := ratPick_len _ _ _ _ _ _ _
theorem ratMaxF_len (s t : Bool) (xs ys us vs : List Int) : (toL (ratMaxF s t xs ys us vs).1.natAbs).length ≤ 2000000 ∧ (toL (ratMaxF s t xs ys us vs).2).length ≤ 2000000 := ratPick_len _ _ _ _ _ _ _
def sgnF (s : Bool) (m : Nat) : Int := if m = 0 then 0 else if s then -1 else 1
theorem sgnF_zero (s : Bool) : sgnF s 0 = 0 := rfl
theorem sgnF_pos {s : Bool} {m : Nat} (h : 0 < m) : sgnF s m = if s then -1 else 1 := if_neg (by omega)
def ratSignF (s : Bool) (xs ys : List Int) : Int := if ratOkB s xs ys then sgnF s (dv xs) else 0
def ratMakeF (s t : Bool) (xs ys : List Int) : Int × Nat := if bigOk s xs && bigOk t ys then ratF (s != t) (dv xs) (dv ys) else (0, 0)
theorem ratMakeF_len (s t : Bool) (xs ys : List Int) : (toL (ratMakeF s t xs ys).1.natAbs).length ≤ 2000000 ∧ (toL (ratMakeF s t xs ys).2).length ≤ 2000000 := by
  unfold ratMakeF
  split
  · exact ratF_len _ _ _
  · exact zero_lenq
theorem copy_q {s : Bool} {m l : Nat} {A B : Option Addr} {n c k d : Nat} {p : Int × Nat} {w w' : World} (h : p = (bigZ s m, l)) (hs : s = true → 0 < m) (o : PairR w' w.heap.size w'.heap.size 3 (.slice A n c) (.slice B k d) (toL m) (toL l)) (b : Below w.heap.size w w') :
    RetQ p w (.returned (.agg #[.bool s, .slice A n c, .slice B k d])) w' := retq_made h (sgn_dec hs) (bigZ_abs _ _) o b
set_option maxHeartbeats 2000000 in
theorem impl_ratSign (s : Bool) (A1 B1 : Option Addr) (n1 c1 k1 d1 : Nat) (m1 l1 : Nat) (w : World) (u1 : Sl w (.slice A1 n1 c1) (toL m1)) (u2 : Sl w (.slice B1 k1 d1) (toL l1)) (hm1 : m1 < pw 24) (h01 : 0 < l1) :
    Calls Tryz.prog 27 #[.agg #[.bool s, .slice A1 n1 c1, .slice B1 k1 d1]] w fun e w' => e = .returned (.int .i64 (sgnF s m1)) ∧ Below w.heap.size w w' := by
  have U2 := Lib.hid u2
  have P1 := Lib.hid h01
  obtain rfl := u1.len
  have hlm : (toL m1).length ≤ 24 := toL_len_lt hm1
  clear u1 u2 hm1 h01
  rcases Nat.eq_zero_or_pos m1 with h0 | h0
  · subst h0
    have HZ := Lib.hid (sgnF_zero s)
    have hz0 : (toL 0).length = 0 := by rw [toL_zero]; rfl
    have hb : (((toL 0).length : Int) == 0) = true := beq_iff_eq.2 (by omega)
    clear hz0
    go_enter Tryz.func27, Tryz.ntmps27
    go_wp2_with fail
    (with_reducible refine (impl_good s A1 B1 _ c1 k1 d1 l1 _ (U2.out.below (by repeat' (first | (with_reducible exact Below.refl _ _) | (with_reducible refine Below.alloc ?_ ?_ _) | (with_reducible refine Below.setCell ?_ ?_ _) | (with_reducible refine below_drewN ?_ _) | (with_reducible refine Below.drew ?_) | (with_reducible refine below_step (by assumption) ?_ ?_) | omega | (simp; done) | (simp; omega)))) P1.out).mono ?_); rintro e w1 ⟨rfl, b1⟩; obtain ⟨hc1, hf1⟩ := bxcell b1; have q1_0 := fun o => hc1 (w.heap.size) o (by first | omega | (simp; done) | (simp; omega)); have f1_0 := fun o => hf1 (w.heap.size) o (by first | omega | (simp; done) | (simp; omega)); have hz1 := b1.size; (try simp at hz1); have z1_0 : w.heap.size < w1.heap.size := (by omega); have n1_0 := Nat.ne_of_lt z1_0; have m1_0 := (Nat.ne_of_lt z1_0).symm
    go_wp2
    go_ret
    exact ⟨by rw [HZ.out]; rfl, (by repeat' (first | (with_reducible exact Below.refl _ _) | (with_reducible refine Below.alloc ?_ ?_ _) | (with_reducible refine Below.setCell ?_ ?_ _) | (with_reducible refine below_drewN ?_ _) | (with_reducible refine Below.drew ?_) | (with_reducible refine below_step (by assumption) ?_ ?_) | omega | (simp; done) | (simp; omega)))⟩
  · have hp := toL_len_pos h0
    have hb : (((toL m1).length : Int) == 0) = false := beq_eq_false_iff_ne.2 (by omega)
    have HZ := Lib.hid (sgnF_pos (s := s) h0)
    clear h0 hp
    cases s
    all_goals
      go_enter Tryz.func27, Tryz.ntmps27
      go_wp2_with fail
      (with_reducible refine (impl_good _ A1 B1 _ c1 k1 d1 l1 _ (U2.out.below (by repeat' (first | (with_reducible exact Below.refl _ _) | (with_reducible refine Below.alloc ?_ ?_ _) | (with_reducible refine Below.setCell ?_ ?_ _) | (with_reducible refine below_drewN ?_ _) | (with_reducible refine Below.drew ?_) | (with_reducible refine below_step (by assumption) ?_ ?_) | omega | (simp; done) | (simp; omega)))) P1.out).mono ?_); rintro e w1 ⟨rfl, b1⟩; obtain ⟨hc1, hf1⟩ := bxcell b1; have q1_0 := fun o => hc1 (w.heap.size) o (by first | omega | (simp; done) | (simp; omega)); have f1_0 := fun o => hf1 (w.heap.size) o (by first | omega | (simp; done) | (simp; omega)); have hz1 := b1.size; (try simp at hz1); have z1_0 : w.heap.size < w1.heap.size := (by omega); have n1_0 := Nat.ne_of_lt z1_0; have m1_0 := (Nat.ne_of_lt z1_0).symm
      go_wp2
      go_ret
      exact ⟨by rw [HZ.out]; rfl, (by repeat' (first | (with_reducible exact Below.refl _ _) | (with_reducible refine Below.alloc ?_ ?_ _) | (with_reducible refine Below.setCell ?_ ?_ _) | (with_reducible refine below_drewN ?_ _) | (with_reducible refine Below.drew ?_) | (with_reducible refine below_step (by assumption) ?_ ?_) | omega | (simp; done) | (simp; omega)))⟩
set_option maxRecDepth 100000 in
set_option maxHeartbeats 8000000 in
theorem impl_RatSign (s : Bool) (A1 B1 : Option Addr) (n1 c1 k1 d1 : Nat) (xs ys : List Int) (w : World) (u1 : Sl w (.slice A1 n1 c1) xs) (u2 : Sl w (.slice B1 k1 d1) ys) :
    Calls Tryz.prog 12 #[.agg #[.bool s, .slice A1 n1 c1, .slice B1 k1 d1]] w (fun e w' => e = .returned (.int .i64 (ratSignF s xs ys)) ∧ Below w.heap.size w w') := by
  have U1 := Lib.hid u1
  have U2 := Lib.hid u2
  obtain rfl := u1.len
  clear u1 u2
  have zz : w.heap.size < w.heap.size + 1 + 1 := by omega
  have nn := Nat.ne_of_lt zz
  have mm := (Nat.ne_of_lt zz).symm
  cases hx : ratOkB s xs ys with
  | false =>
    have HR := Lib.hid (show ratSignF s xs ys = 0 by unfold ratSignF; rw [hx]; rfl)
    go_enter Tryz.func12, Tryz.ntmps12
    go_wp2_with fail
    (with_reducible refine (impl_RatOk s A1 B1 _ c1 k1 d1 _ _ _ (U1.out.below (by repeat' (first | (with_reducible exact Below.refl _ _) | (with_reducible refine Below.alloc ?_ ?_ _) | (with_reducible refine Below.setCell ?_ ?_ _) | (with_reducible refine below_drewN ?_ _) | (with_reducible refine Below.drew ?_) | (with_reducible refine below_step (by assumption) ?_ ?_) | omega | (simp; done) | (simp; omega)))) (U2.out.below (by repeat' (first | (with_reducible exact Below.refl _ _) | (with_reducible refine Below.alloc ?_ ?_ _) | (with_reducible refine Below.setCell ?_ ?_ _) | (with_reducible refine below_drewN ?_ _) | (with_reducible refine Below.drew ?_) | (with_reducible refine below_step (by assumption) ?_ ?_) | omega | (simp; done) | (simp; omega))))).mono ?_); rintro e w1 ⟨rfl, b1⟩; obtain ⟨hc1, hf1⟩ := bxcell b1; have q1_0 := fun o => hc1 (w.heap.size) o (by first | omega | (simp; done) | (simp; omega)); have f1_0 := fun o => hf1 (w.heap.size) o (by first | omega | (simp; done) | (simp; omega)); have hz1 := b1.size; (try simp at hz1); have z1_0 : w.heap.size < w1.heap.size := (by omega); have n1_0 := Nat.ne_of_lt z1_0; have m1_0 := (Nat.ne_of_lt z1_0).symm
    rw [hx]
    go_wp2
    go_ret
    exact ⟨by rw [HR.out]; rfl, (by repeat' (first | (with_reducible exact Below.refl _ _) | (with_reducible refine Below.alloc ?_ ?_ _) | (with_reducible refine Below.setCell ?_ ?_ _) | (with_reducible refine below_drewN ?_ _) | (with_reducible refine Below.drew ?_) | (with_reducible refine below_step (by assumption) ?_ ?_) | omega | (simp; done) | (simp; omega)))⟩
  | true =>
    have HX := Lib.hid hx
    obtain ⟨m1, l1, rfl, rfl, hm1, h01, hl1, hg1, hs1⟩ := ratOk_iff hx
    have HR := Lib.hid (show ratSignF s (toL m1) (toL l1) = sgnF s m1 by unfold ratSignF; rw [hx]; simp only [dv_toL]; rfl)
    have M1 := Lib.hid hm1
    have L1 := Lib.hid hl1
    have P1 := Lib.hid h01
    have S1 := Lib.hid hs1
    have hlm : (toL m1).length ≤ 24 := toL_len_lt hm1
    clear hm1 hl1 h01 hs1 hg1 hx
    go_enter Tryz.func12, Tryz.ntmps12
    go_wp2_with fail
    (with_reducible refine (impl_RatOk s A1 B1 _ c1 k1 d1 _ _ _ (U1.out.below (by repeat' (first | (with_reducible exact Below.refl _ _) | (with_reducible refine Below.alloc ?_ ?_ _) | (with_reducible refine Below.setCell ?_ ?_ _) | (with_reducible refine below_drewN ?_ _) | (with_reducible refine Below.drew ?_) | (with_reducible refine below_step (by assumption) ?_ ?_) | omega | (simp; done) | (simp; omega)))) (U2.out.below (by repeat' (first | (with_reducible exact Below.refl _ _) | (with_reducible refine Below.alloc ?_ ?_ _) | (with_reducible refine Below.setCell ?_ ?_ _) | (with_reducible refine below_drewN ?_ _) | (with_reducible refine Below.drew ?_) | (with_reducible refine below_step (by assumption) ?_ ?_) | omega | (simp; done) | (simp; omega))))).mono ?_); rintro e w1 ⟨rfl, b1⟩; obtain ⟨hc1, hf1⟩ := bxcell b1; have q1_0 := fun o => hc1 (w.heap.size) o (by first | omega | (simp; done) | (simp; omega)); have f1_0 := fun o => hf1 (w.heap.size) o (by first | omega | (simp; done) | (simp; omega)); have hz1 := b1.size; (try simp at hz1); have z1_0 : w.heap.size < w1.heap.size := (by omega); have n1_0 := Nat.ne_of_lt z1_0; have m1_0 := (Nat.ne_of_lt z1_0).symm
    rw [HX.out]
    go_wp2_with fail
    (with_reducible refine (impl_ratSign s A1 B1 _ c1 k1 d1 m1 l1 _ (U1.out.below (by repeat' (first | (with_reducible exact Below.refl _ _) | (with_reducible refine Below.alloc ?_ ?_ _) | (with_reducible refine Below.setCell ?_ ?_ _) | (with_reducible refine below_drewN ?_ _) | (with_reducible refine Below.drew ?_) | (with_reducible refine below_step (by assumption) ?_ ?_) | omega | (simp; done) | (simp; omega)))) (U2.out.below (by repeat' (first | (with_reducible exact Below.refl _ _) | (with_reducible refine Below.alloc ?_ ?_ _) | (with_reducible refine Below.setCell ?_ ?_ _) | (with_reducible refine below_drewN ?_ _) | (with_reducible refine Below.drew ?_) | (with_reducible refine below_step (by assumption) ?_ ?_) | omega | (simp; done) | (simp; omega)))) M1.out P1.out).mono ?_); rintro e w2 ⟨rfl, b2⟩; obtain ⟨hc2, hf2⟩ := bxcell b2; have q2_0 := fun o => hc2 (w.heap.size) o (by first | omega | (simp; done) | (simp; omega)); have f2_0 := fun o => hf2 (w.heap.size) o (by first | omega | (simp; done) | (simp; omega)); have hz2 := b2.size; (try simp at hz2); have z2_0 : w.heap.size < w2.heap.size := (by omega); have n2_0 := Nat.ne_of_lt z2_0; have m2_0 := (Nat.ne_of_lt z2_0).symm
    go_wp2
    go_ret
    exact ⟨by rw [HR.out]; rfl, (by repeat' (first | (with_reducible exact Below.refl _ _) | (with_reducible refine Below.alloc ?_ ?_ _) | (with_reducible refine Below.setCell ?_ ?_ _) | (with_reducible refine below_drewN ?_ _) | (with_reducible refine Below.drew ?_) | (with_reducible refine below_step (by assumption) ?_ ?_) | omega | (simp; done) | (simp; omega)))⟩
end Go.Proofs.YticekjagmcphbaaGreatDoor
