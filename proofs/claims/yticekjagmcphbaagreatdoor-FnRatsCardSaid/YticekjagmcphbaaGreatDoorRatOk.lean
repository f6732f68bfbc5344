/-
  Contracts: RatOk of both packages. Written by an AI agent.
-/
import Derived.Test.YticekjagmcphbaaGreatDoorRatL
namespace Go.Proofs.YticekjagmcphbaaGreatDoor
open Go.RowKit

def ratOkB (s : Bool) (xs ys : List Int) : Bool := bigOk s xs && (okB ys && (decide (0 < ys.length) && (decide (xs.length ≤ 24) && (decide (ys.length ≤ 24) && decide (Nat.gcd (val xs).toNat (val ys).toNat = 1)))))
theorem ratOk_no1 {s : Bool} {xs ys : List Int} (h : bigOk s xs = false) : ratOkB s xs ys = false := by unfold ratOkB; rw [h]; rfl
theorem ratOk_no2 {s : Bool} {xs ys : List Int} (h1 : bigOk s xs = true) (h : okB ys = false) : ratOkB s xs ys = false := by unfold ratOkB; rw [h1, h]; rfl
theorem ratOk_no3 {s : Bool} {xs ys : List Int} (h : ys.length = 0) : ratOkB s xs ys = false := by
  unfold ratOkB
  rw [show decide (0 < ys.length) = false from decide_eq_false (by omega)]
  simp
theorem ratOk_no4 {s : Bool} {xs ys : List Int} (h : 24 < xs.length) : ratOkB s xs ys = false := by
  unfold ratOkB
  rw [show decide (xs.length ≤ 24) = false from decide_eq_false (by omega)]
  simp
theorem ratOk_no5 {s : Bool} {xs ys : List Int} (h : 24 < ys.length) : ratOkB s xs ys = false := by
  unfold ratOkB
  rw [show decide (ys.length ≤ 24) = false from decide_eq_false (by omega)]
  simp
theorem ratOk_one {s : Bool} {m l : Nat} (h1 : bigOk s (toL m) = true) (h2 : okB (toL l) = true) (h3 : 0 < (toL l).length) (h4 : (toL m).length ≤ 24) (h5 : (toL l).length ≤ 24) : ratOkB s (toL m) (toL l) = oneB (Nat.gcd m l) := by
  unfold ratOkB oneB
  rw [h1, h2, decide_eq_true h3, decide_eq_true h4, decide_eq_true h5, val_toL, val_toL, Int.toNat_natCast, Int.toNat_natCast]
  rfl
theorem ratOk_iff {s : Bool} {xs ys : List Int} (h : ratOkB s xs ys = true) : ∃ m l : Nat, xs = toL m ∧ ys = toL l ∧ m < pw 24 ∧ 0 < l ∧ l < pw 24 ∧ Nat.gcd m l = 1 ∧ (s = true → 0 < m) := by
  unfold ratOkB at h
  simp only [Bool.and_eq_true, decide_eq_true_eq] at h
  obtain ⟨h1, h2, h3, h4, h5, h6⟩ := h
  obtain ⟨m, rfl, hm, hs⟩ := bigOk_iff h1
  obtain ⟨l, rfl, hl⟩ := okB_toL h2
  rw [val_toL, val_toL, Int.toNat_natCast, Int.toNat_natCast] at h6
  refine ⟨m, l, rfl, rfl, len24.1 h4, ?_, len24.1 h5, h6, hs⟩
  rcases Nat.eq_zero_or_pos l with h0 | h0
  · subst h0
    rw [toL_zero] at h3
    cases h3
  · exact h0
/-- What l04One, and its like in impl, reads of a list. -/
theorem one_cases (g : Nat) : (oneB g = true ∧ toL g = [1]) ∨ (oneB g = false ∧ (((toL g).length : Int) == 1) = false) ∨ (oneB g = false ∧ ∃ d, toL g = [d] ∧ (d == (1 : Int)) = false) := by
  by_cases hl : (toL g).length = 1
  · have h9 : g < 1000000000 := toL_len_le.1 (Nat.le_of_eq hl)
    have h0 : 0 < g := by
      rcases Nat.eq_zero_or_pos g with h0 | h0
      · subst h0
        rw [toL_zero] at hl
        cases hl
      · exact h0
    have hg := toL_one h0 h9
    by_cases h : g = 1
    · exact .inl ⟨decide_eq_true h, by rw [hg, h]; rfl⟩
    · exact .inr (.inr ⟨decide_eq_false h, _, hg, beq_eq_false_iff_ne.2 (by omega)⟩)
  · refine .inr (.inl ⟨decide_eq_false (fun h => hl (by subst h; rw [toL_one (by omega) (by omega)]; rfl)), beq_eq_false_iff_ne.2 (by omega)⟩)


set_option maxHeartbeats 4000000 in
theorem impl_RatOk (s : Bool) (A B : Option Addr) (n c k d : Nat) (xs ys : List Int) (w : World) (hu : Sl w (.slice A n c) xs) (hv : Sl w (.slice B k d) ys) :
    Calls Tryz.prog 19 #[.agg #[.bool s, .slice A n c, .slice B k d]] w fun e w' => e = .returned (.bool (ratOkB s xs ys)) ∧ Below w.heap.size w w' := by
  have HU := Lib.hid hu
  have HV := Lib.hid hv
  obtain rfl := hu.len
  obtain rfl := hv.len
  have hlx : xs.length ≤ 9223372036854775807 := by
    obtain ⟨_, _, hv', p1, p2, _⟩ := hu
    cases hv'
    unfold maxLen at p2
    omega
  have hly : ys.length ≤ 9223372036854775807 := by
    obtain ⟨_, _, hv', p1, p2, _⟩ := hv
    cases hv'
    unfold maxLen at p2
    omega
  clear hu hv
  cases hx : bigOk s xs with
  | false =>
    have HR := Lib.hid (ratOk_no1 (ys := ys) hx)
    go_enter Tryz.func19, Tryz.ntmps19
    go_wp2_with fail
    (with_reducible refine (impl_BigIntOk s A xs.length c xs _ (HU.out.below (by repeat' (first | (with_reducible exact Below.refl _ _) | (with_reducible refine Below.alloc ?_ ?_ _) | (with_reducible refine Below.setCell ?_ ?_ _) | (with_reducible refine below_drewN ?_ _) | (with_reducible refine Below.drew ?_) | (with_reducible refine below_step (by assumption) ?_ ?_) | omega | (simp; done) | (simp; omega))))).mono ?_); rintro e w1 ⟨rfl, b1⟩; obtain ⟨hc1, hf1⟩ := bxcell b1; have q1_0 := fun o => hc1 (w.heap.size) o (by first | omega | (simp; done) | (simp; omega)); have f1_0 := fun o => hf1 (w.heap.size) o (by first | omega | (simp; done) | (simp; omega)); have hz1 := b1.size; (try simp at hz1); have z1_0 : w.heap.size < w1.heap.size := (by omega); have n1_0 := Nat.ne_of_lt z1_0; have m1_0 := (Nat.ne_of_lt z1_0).symm
    rw [hx]
    go_wp2
    go_ret
    exact ⟨by rw [HR.out]; rfl, (by repeat' (first | (with_reducible exact Below.refl _ _) | (with_reducible refine Below.alloc ?_ ?_ _) | (with_reducible refine Below.setCell ?_ ?_ _) | (with_reducible refine below_drewN ?_ _) | (with_reducible refine Below.drew ?_) | (with_reducible refine below_step (by assumption) ?_ ?_) | omega | (simp; done) | (simp; omega)))⟩
  | true =>
  cases hy : okB ys with
  | false =>
    have HR := Lib.hid (ratOk_no2 hx hy)
    go_enter Tryz.func19, Tryz.ntmps19
    go_wp2_with fail
    (with_reducible refine (impl_BigIntOk s A xs.length c xs _ (HU.out.below (by repeat' (first | (with_reducible exact Below.refl _ _) | (with_reducible refine Below.alloc ?_ ?_ _) | (with_reducible refine Below.setCell ?_ ?_ _) | (with_reducible refine below_drewN ?_ _) | (with_reducible refine Below.drew ?_) | (with_reducible refine below_step (by assumption) ?_ ?_) | omega | (simp; done) | (simp; omega))))).mono ?_); rintro e w1 ⟨rfl, b1⟩; obtain ⟨hc1, hf1⟩ := bxcell b1; have q1_0 := fun o => hc1 (w.heap.size) o (by first | omega | (simp; done) | (simp; omega)); have f1_0 := fun o => hf1 (w.heap.size) o (by first | omega | (simp; done) | (simp; omega)); have hz1 := b1.size; (try simp at hz1); have z1_0 : w.heap.size < w1.heap.size := (by omega); have n1_0 := Nat.ne_of_lt z1_0; have m1_0 := (Nat.ne_of_lt z1_0).symm
    rw [hx]
    go_wp2_with fail
    refine (impl_NatOk _ ys _ (HV.out.below (by repeat' (first | (with_reducible exact Below.refl _ _) | (with_reducible refine Below.alloc ?_ ?_ _) | (with_reducible refine Below.setCell ?_ ?_ _) | (with_reducible refine below_drewN ?_ _) | (with_reducible refine Below.drew ?_) | (with_reducible refine below_step (by assumption) ?_ ?_) | omega | (simp; done) | (simp; omega))))).mono ?_
    rintro e w2 ⟨rfl, rfl⟩
    rw [hy]
    go_wp2
    go_ret
    exact ⟨by rw [HR.out]; rfl, (by repeat' (first | (with_reducible exact Below.refl _ _) | (with_reducible refine Below.alloc ?_ ?_ _) | (with_reducible refine Below.setCell ?_ ?_ _) | (with_reducible refine below_drewN ?_ _) | (with_reducible refine Below.drew ?_) | (with_reducible refine below_step (by assumption) ?_ ?_) | omega | (simp; done) | (simp; omega)))⟩
  | true =>
  by_cases h0 : ys.length = 0
  · have HR := Lib.hid (ratOk_no3 (s := s) (xs := xs) h0)
    have hb : ((ys.length : Int) == 0) = true := beq_iff_eq.2 (by omega)
    clear h0
    go_enter Tryz.func19, Tryz.ntmps19
    go_wp2_with fail
    (with_reducible refine (impl_BigIntOk s A xs.length c xs _ (HU.out.below (by repeat' (first | (with_reducible exact Below.refl _ _) | (with_reducible refine Below.alloc ?_ ?_ _) | (with_reducible refine Below.setCell ?_ ?_ _) | (with_reducible refine below_drewN ?_ _) | (with_reducible refine Below.drew ?_) | (with_reducible refine below_step (by assumption) ?_ ?_) | omega | (simp; done) | (simp; omega))))).mono ?_); rintro e w1 ⟨rfl, b1⟩; obtain ⟨hc1, hf1⟩ := bxcell b1; have q1_0 := fun o => hc1 (w.heap.size) o (by first | omega | (simp; done) | (simp; omega)); have f1_0 := fun o => hf1 (w.heap.size) o (by first | omega | (simp; done) | (simp; omega)); have hz1 := b1.size; (try simp at hz1); have z1_0 : w.heap.size < w1.heap.size := (by omega); have n1_0 := Nat.ne_of_lt z1_0; have m1_0 := (Nat.ne_of_lt z1_0).symm
    rw [hx]
    go_wp2_with fail
    refine (impl_NatOk _ ys _ (HV.out.below (by repeat' (first | (with_reducible exact Below.refl _ _) | (with_reducible refine Below.alloc ?_ ?_ _) | (with_reducible refine Below.setCell ?_ ?_ _) | (with_reducible refine below_drewN ?_ _) | (with_reducible refine Below.drew ?_) | (with_reducible refine below_step (by assumption) ?_ ?_) | omega | (simp; done) | (simp; omega))))).mono ?_
    rintro e w2 ⟨rfl, rfl⟩
    rw [hy]
    go_wp2
    go_ret
    exact ⟨by rw [HR.out]; rfl, (by repeat' (first | (with_reducible exact Below.refl _ _) | (with_reducible refine Below.alloc ?_ ?_ _) | (with_reducible refine Below.setCell ?_ ?_ _) | (with_reducible refine below_drewN ?_ _) | (with_reducible refine Below.drew ?_) | (with_reducible refine below_step (by assumption) ?_ ?_) | omega | (simp; done) | (simp; omega)))⟩
  have hb : ((ys.length : Int) == 0) = false := beq_eq_false_iff_ne.2 (by omega)
  by_cases h4 : 24 < xs.length
  · have HR := Lib.hid (ratOk_no4 (s := s) (ys := ys) h4)
    by_cases h5 : 24 < ys.length
    all_goals
      go_enter Tryz.func19, Tryz.ntmps19
      go_wp2_with fail
      (with_reducible refine (impl_BigIntOk s A xs.length c xs _ (HU.out.below (by repeat' (first | (with_reducible exact Below.refl _ _) | (with_reducible refine Below.alloc ?_ ?_ _) | (with_reducible refine Below.setCell ?_ ?_ _) | (with_reducible refine below_drewN ?_ _) | (with_reducible refine Below.drew ?_) | (with_reducible refine below_step (by assumption) ?_ ?_) | omega | (simp; done) | (simp; omega))))).mono ?_); rintro e w1 ⟨rfl, b1⟩; obtain ⟨hc1, hf1⟩ := bxcell b1; have q1_0 := fun o => hc1 (w.heap.size) o (by first | omega | (simp; done) | (simp; omega)); have f1_0 := fun o => hf1 (w.heap.size) o (by first | omega | (simp; done) | (simp; omega)); have hz1 := b1.size; (try simp at hz1); have z1_0 : w.heap.size < w1.heap.size := (by omega); have n1_0 := Nat.ne_of_lt z1_0; have m1_0 := (Nat.ne_of_lt z1_0).symm
      rw [hx]
      go_wp2_with fail
      refine (impl_NatOk _ ys _ (HV.out.below (by repeat' (first | (with_reducible exact Below.refl _ _) | (with_reducible refine Below.alloc ?_ ?_ _) | (with_reducible refine Below.setCell ?_ ?_ _) | (with_reducible refine below_drewN ?_ _) | (with_reducible refine Below.drew ?_) | (with_reducible refine below_step (by assumption) ?_ ?_) | omega | (simp; done) | (simp; omega))))).mono ?_
      rintro e w2 ⟨rfl, rfl⟩
      rw [hy]
      go_wp2
      go_ret
      exact ⟨by rw [HR.out]; rfl, (by repeat' (first | (with_reducible exact Below.refl _ _) | (with_reducible refine Below.alloc ?_ ?_ _) | (with_reducible refine Below.setCell ?_ ?_ _) | (with_reducible refine below_drewN ?_ _) | (with_reducible refine Below.drew ?_) | (with_reducible refine below_step (by assumption) ?_ ?_) | omega | (simp; done) | (simp; omega)))⟩
  by_cases h5 : 24 < ys.length
  · have HR := Lib.hid (ratOk_no5 (s := s) (xs := xs) h5)
    go_enter Tryz.func19, Tryz.ntmps19
    go_wp2_with fail
    (with_reducible refine (impl_BigIntOk s A xs.length c xs _ (HU.out.below (by repeat' (first | (with_reducible exact Below.refl _ _) | (with_reducible refine Below.alloc ?_ ?_ _) | (with_reducible refine Below.setCell ?_ ?_ _) | (with_reducible refine below_drewN ?_ _) | (with_reducible refine Below.drew ?_) | (with_reducible refine below_step (by assumption) ?_ ?_) | omega | (simp; done) | (simp; omega))))).mono ?_); rintro e w1 ⟨rfl, b1⟩; obtain ⟨hc1, hf1⟩ := bxcell b1; have q1_0 := fun o => hc1 (w.heap.size) o (by first | omega | (simp; done) | (simp; omega)); have f1_0 := fun o => hf1 (w.heap.size) o (by first | omega | (simp; done) | (simp; omega)); have hz1 := b1.size; (try simp at hz1); have z1_0 : w.heap.size < w1.heap.size := (by omega); have n1_0 := Nat.ne_of_lt z1_0; have m1_0 := (Nat.ne_of_lt z1_0).symm
    rw [hx]
    go_wp2_with fail
    refine (impl_NatOk _ ys _ (HV.out.below (by repeat' (first | (with_reducible exact Below.refl _ _) | (with_reducible refine Below.alloc ?_ ?_ _) | (with_reducible refine Below.setCell ?_ ?_ _) | (with_reducible refine below_drewN ?_ _) | (with_reducible refine Below.drew ?_) | (with_reducible refine below_step (by assumption) ?_ ?_) | omega | (simp; done) | (simp; omega))))).mono ?_
    rintro e w2 ⟨rfl, rfl⟩
    rw [hy]
    go_wp2
    go_ret
    exact ⟨by rw [HR.out]; rfl, (by repeat' (first | (with_reducible exact Below.refl _ _) | (with_reducible refine Below.alloc ?_ ?_ _) | (with_reducible refine Below.setCell ?_ ?_ _) | (with_reducible refine below_drewN ?_ _) | (with_reducible refine Below.drew ?_) | (with_reducible refine below_step (by assumption) ?_ ?_) | omega | (simp; done) | (simp; omega)))⟩
  have HX := Lib.hid hx
  have HY := Lib.hid hy
  obtain ⟨m, rfl, hm, hs0⟩ := bigOk_iff hx
  obtain ⟨l, rfl, hl⟩ := okB_toL hy
  have HR := Lib.hid (ratOk_one hx hy (by omega) (by omega) (by omega))
  have HM := Lib.hid (Nat.lt_of_lt_of_le hm (pw_le (show 60 ≤ 150 by omega)))
  have HL := Lib.hid (Nat.lt_of_lt_of_le hl (pw_le (show 60 ≤ 150 by omega)))
  obtain ⟨g, hg⟩ : ∃ g, g = Nat.gcd m l := ⟨_, rfl⟩
  rw [← hg] at HR
  have HG := Lib.hid hg
  have hcs := one_cases g
  clear hx hy hm hl hs0 hg h0
  go_enter Tryz.func19, Tryz.ntmps19
  go_wp2_with fail
  (with_reducible refine (impl_BigIntOk s A _ c (toL m) _ (HU.out.below (by repeat' (first | (with_reducible exact Below.refl _ _) | (with_reducible refine Below.alloc ?_ ?_ _) | (with_reducible refine Below.setCell ?_ ?_ _) | (with_reducible refine below_drewN ?_ _) | (with_reducible refine Below.drew ?_) | (with_reducible refine below_step (by assumption) ?_ ?_) | omega | (simp; done) | (simp; omega))))).mono ?_); rintro e w1 ⟨rfl, b1⟩; obtain ⟨hc1, hf1⟩ := bxcell b1; have q1_0 := fun o => hc1 (w.heap.size) o (by first | omega | (simp; done) | (simp; omega)); have f1_0 := fun o => hf1 (w.heap.size) o (by first | omega | (simp; done) | (simp; omega)); have hz1 := b1.size; (try simp at hz1); have z1_0 : w.heap.size < w1.heap.size := (by omega); have n1_0 := Nat.ne_of_lt z1_0; have m1_0 := (Nat.ne_of_lt z1_0).symm
  rw [HX.out]
  go_wp2_with fail
  refine (impl_NatOk _ (toL l) _ (HV.out.below (by repeat' (first | (with_reducible exact Below.refl _ _) | (with_reducible refine Below.alloc ?_ ?_ _) | (with_reducible refine Below.setCell ?_ ?_ _) | (with_reducible refine below_drewN ?_ _) | (with_reducible refine Below.drew ?_) | (with_reducible refine below_step (by assumption) ?_ ?_) | omega | (simp; done) | (simp; omega))))).mono ?_
  rintro e w2 ⟨rfl, rfl⟩
  rw [HY.out]
  go_wp2_with fail
  (with_reducible refine (impl_natGcd _ _ m l _ (HU.out.below (by repeat' (first | (with_reducible exact Below.refl _ _) | (with_reducible refine Below.alloc ?_ ?_ _) | (with_reducible refine Below.setCell ?_ ?_ _) | (with_reducible refine below_drewN ?_ _) | (with_reducible refine Below.drew ?_) | (with_reducible refine below_step (by assumption) ?_ ?_) | omega | (simp; done) | (simp; omega)))) (HV.out.below (by repeat' (first | (with_reducible exact Below.refl _ _) | (with_reducible refine Below.alloc ?_ ?_ _) | (with_reducible refine Below.setCell ?_ ?_ _) | (with_reducible refine below_drewN ?_ _) | (with_reducible refine Below.drew ?_) | (with_reducible refine below_step (by assumption) ?_ ?_) | omega | (simp; done) | (simp; omega)))) HM.out HL.out).mono ?_); rintro e w3 ⟨r3, rfl, o3, b3⟩; obtain ⟨hc3, hf3⟩ := bxcell b3; have q3_0 := fun o => hc3 (w.heap.size) o (by first | omega | (simp; done) | (simp; omega)); have f3_0 := fun o => hf3 (w.heap.size) o (by first | omega | (simp; done) | (simp; omega)); have hz3 := b3.size; (try simp at hz3); have z3_0 : w.heap.size < w3.heap.size := (by omega); have n3_0 := Nat.ne_of_lt z3_0; have m3_0 := (Nat.ne_of_lt z3_0).symm
  rw [← HG.out] at o3
  have hs3 := o3.sl
  clear o3
  first
    | (fail; have HS3 := Lib.hid hs3; clear hs3 hcs
       go_wp2_with fail
       go_at_call 76
       refine (spec_l04One _ g _ HS3.out).mono ?_
       rintro e w4 ⟨rfl, rfl⟩
       go_wp2
       go_ret
       exact ⟨by rw [HR.out]; rfl, (by repeat' (first | (with_reducible exact Below.refl _ _) | (with_reducible refine Below.alloc ?_ ?_ _) | (with_reducible refine Below.setCell ?_ ?_ _) | (with_reducible refine below_drewN ?_ _) | (with_reducible refine Below.drew ?_) | (with_reducible refine below_step (by assumption) ?_ ?_) | omega | (simp; done) | (simp; omega)))⟩)
    | (rcases hcs with ⟨e1, e2⟩ | ⟨e1, e2⟩ | ⟨e1, dd, e2, e3⟩
       · rw [e2] at hs3
         rw [e1] at HR
         obtain ⟨D, cd, hv3, p1, p2, p3⟩ := hs3
         subst hv3
         obtain ⟨bb, off, rfl, hcc⟩ := p3 (by simp)
         have k0 : w3.cell? ⟨bb, off, none⟩ = some (.int .i64 1) := hcc 0 1 rfl
         clear hcc p3 p1 p2 e1 e2
         go_wp2
         go_ret
         exact ⟨by rw [HR.out]; rfl, (by repeat' (first | (with_reducible exact Below.refl _ _) | (with_reducible refine Below.alloc ?_ ?_ _) | (with_reducible refine Below.setCell ?_ ?_ _) | (with_reducible refine below_drewN ?_ _) | (with_reducible refine Below.drew ?_) | (with_reducible refine below_step (by assumption) ?_ ?_) | omega | (simp; done) | (simp; omega)))⟩
       · have hlen : (toL g).length ≤ 150 := toL_len_lt (by rw [HG.out]; exact gcd_lt HM.out HL.out)
         rw [e1] at HR
         obtain ⟨D, cd, hv3, p1, p2, p3⟩ := hs3
         subst hv3
         clear p3 p1 p2 e1
         go_wp2
         go_ret
         exact ⟨by rw [HR.out]; rfl, (by repeat' (first | (with_reducible exact Below.refl _ _) | (with_reducible refine Below.alloc ?_ ?_ _) | (with_reducible refine Below.setCell ?_ ?_ _) | (with_reducible refine below_drewN ?_ _) | (with_reducible refine Below.drew ?_) | (with_reducible refine below_step (by assumption) ?_ ?_) | omega | (simp; done) | (simp; omega)))⟩
       · rw [e2] at hs3
         rw [e1] at HR
         obtain ⟨D, cd, hv3, p1, p2, p3⟩ := hs3
         subst hv3
         obtain ⟨bb, off, rfl, hcc⟩ := p3 (by simp)
         have k0 : w3.cell? ⟨bb, off, none⟩ = some (.int .i64 dd) := hcc 0 dd rfl
         clear hcc p3 p1 p2 e1 e2
         go_wp2
         go_ret
         exact ⟨by rw [HR.out]; rfl, (by repeat' (first | (with_reducible exact Below.refl _ _) | (with_reducible refine Below.alloc ?_ ?_ _) | (with_reducible refine Below.setCell ?_ ?_ _) | (with_reducible refine below_drewN ?_ _) | (with_reducible refine Below.drew ?_) | (with_reducible refine below_step (by assumption) ?_ ?_) | omega | (simp; done) | (simp; omega)))⟩)


end Go.Proofs.YticekjagmcphbaaGreatDoor
