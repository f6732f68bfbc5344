/-
  Making a fraction of a numerator and a denominator: ratMake and l04Low. Written by an AI agent.
-/
import Derived.Test.YticekjagmcphbaaGreatDoorBigZF
import Derived.Test.YticekjagmcphbaaGreatDoorDivG
import Derived.Test.YticekjagmcphbaaGreatDoorGcdS
import Derived.Test.YticekjagmcphbaaGreatDoorRat
namespace Go.Proofs.YticekjagmcphbaaGreatDoor
open Go.RowKit

/-- The fraction of a sign, a numerator and a denominator: in lowest terms; (0, 0) where there is none, or where it wants more than 24 limbs. -/
def ratF (s : Bool) (m b : Nat) : Int × Nat :=
  if 0 < b ∧ m / Nat.gcd m b < pw 24 ∧ b / Nat.gcd m b < pw 24 then (bigZ s (m / Nat.gcd m b), b / Nat.gcd m b) else (0, 0)
/-- A fraction of the call's own is handed back: its numerator, its denominator. -/
def RetQ (p : Int × Nat) (w : World) (en : Ending) (w' : World) : Prop := RetRat 3 (decide (p.1 < 0)) (toL p.1.natAbs) (toL p.2) w en w'
theorem ratF_none {s : Bool} {m b : Nat} (h : ¬ (0 < b ∧ m / Nat.gcd m b < pw 24 ∧ b / Nat.gcd m b < pw 24)) : ratF s m b = (0, 0) := if_neg h
theorem ratF_some {s : Bool} {m b : Nat} (h0 : 0 < b) (h1 : m / Nat.gcd m b < pw 24) (h2 : b / Nat.gcd m b < pw 24) : ratF s m b = (bigZ s (m / Nat.gcd m b), b / Nat.gcd m b) := if_pos ⟨h0, h1, h2⟩
theorem ratF_num (s : Bool) (m b : Nat) : (ratF s m b).1.natAbs < pw 24 := by
  unfold ratF
  split
  · rename_i h
    rw [bigZ_abs]
    exact h.2.1
  · exact pw_pos 24
theorem ratF_den (s : Bool) (m b : Nat) : (ratF s m b).2 < pw 24 := by
  unfold ratF
  split
  · rename_i h
    exact h.2.2
  · exact pw_pos 24
theorem PairR.nil (w : World) (lo hi e : Nat) (h : lo ≤ hi) : PairR w lo hi e (.slice none 0 0) (.slice none 0 0) [] [] :=
  ⟨lo, lo, lo, lo, ⟨Own.nil _ _ _, fun k hk => by cases hk⟩, ⟨Own.nil _ _ _, fun k hk => by cases hk⟩, Nat.le_refl _, Nat.le_refl _, .inl (Nat.le_refl _), h, h, Nat.le_refl _, Nat.le_refl _⟩
theorem retq_zero {p : Int × Nat} {w w' : World} (h : p = (0, 0)) (b : Below w.heap.size w w') : RetQ p w (.returned (.agg #[.bool false, .slice none 0 0, .slice none 0 0])) w' := by
  subst h
  refine ⟨none, 0, 0, none, 0, 0, rfl, ?_, b⟩
  rw [show ((0 : Int), (0 : Nat)).1.natAbs = 0 from rfl, show ((0 : Int), (0 : Nat)).2 = 0 from rfl, toL_zero]
  exact PairR.nil _ _ _ _ b.size
theorem retq_made {p : Int × Nat} {s : Bool} {A B : Option Addr} {n c m d q b : Nat} {z : Int} {w w' : World} (h : p = (z, b)) (hs : s = decide (z < 0)) (hq : z.natAbs = q) (o : PairR w' w.heap.size w'.heap.size 3 (.slice A n c) (.slice B m d) (toL q) (toL b)) (hb : Below w.heap.size w w') :
    RetQ p w (.returned (.agg #[.bool s, .slice A n c, .slice B m d])) w' := by
  subst h hs hq
  exact ⟨_, _, _, _, _, _, rfl, o, hb⟩
theorem gcd_pos {m b : Nat} (h : 0 < b) : 0 < Nat.gcd m b := Nat.gcd_pos_of_pos_right m h
theorem len24 {m : Nat} : (toL m).length ≤ 24 ↔ m < pw 24 := toL_len_le
theorem len24' {m : Nat} (h : ¬ m < pw 24) : 24 < (toL m).length := by
  rcases Nat.lt_or_ge 24 (toL m).length with h1 | h1
  · exact h1
  · exact absurd (len24.1 h1) h
/-- A quotient of the call's own is handed back, and a remainder beside it. -/
def RetQuo (q : Nat) (w : World) (en : Ending) (w' : World) : Prop :=
  ∃ A n c s lo hi, en = .returned (.tuple #[.slice A n c, s]) ∧ n = (toL q).length ∧ OwnR w' lo hi 3 (.slice A n c) (toL q) ∧ w.heap.size ≤ lo ∧ lo ≤ hi ∧ hi ≤ w'.heap.size ∧ Below w.heap.size w w'
theorem RetTwo.quo {q r : Nat} {w w' : World} {en : Ending} (h : RetTwo 3 (toL q) (toL r) w en w') : RetQuo q w en w' := by
  obtain ⟨u, s, lo1, hi1, lo2, hi2, he, o, p, a, b, c, d, e, f, g, k⟩ := h
  obtain ⟨A, c', rfl, e1, e2, e3⟩ := o.1.form
  exact ⟨A, _, c', s, lo1, hi1, he, rfl, o, a, g, d, f⟩

theorem impl_quo (u v : Value) (m n q : Nat) (w : World) (hu : Sl w u (toL m)) (hv : Sl w v (toL n)) (h0 : 0 < n) (hm : m < pw 200) (hn : n < pw 150) (hq : q = m / n) :
    Calls Tryz.prog 53 #[u, v] w (RetQuo q w) := (impl_natDiv u v m n w hu hv h0 hm hn).mono fun _ _ h => hq ▸ h.quo

theorem spec_quo (u v : Value) (m n q : Nat) (w : World) (hu : Sl w u (toL m)) (hv : Sl w v (toL n)) (h0 : 0 < n) (hm : m < pw 200) (hn : n < pw 150) (hq : q = m / n) :
    Calls Tryz.prog 78 #[u, v] w (RetQuo q w) := (spec_natDiv u v m n w hu hv h0 hm hn).mono fun _ _ h => hq ▸ h.quo


/-- bigMake of a row that lies in the blocks from lo up to hi. -/
def MadeR (lo hi : Nat) (s : Bool) (q : Nat) (w : World) (en : Ending) (w' : World) : Prop :=
  ∃ u A n c, en = .returned (.agg #[.bool u, .slice A n c]) ∧ u = decide (bigZ s q < 0) ∧ OwnR w' lo hi 3 (.slice A n c) (toL q) ∧ Below w.heap.size w w'
theorem impl_makeR (s : Bool) (v : Value) (m lo hi : Nat) (w : World) (h : OwnR w lo hi 3 v (toL m)) (hm : m < pw 24) (hh : hi ≤ w.heap.size) :
    Calls Tryz.prog 35 #[.bool s, v] w (MadeR lo hi s m w) := by
  have hm6 : m < pw 60 := Nat.lt_of_lt_of_le hm (pw_le (by omega))
  obtain ⟨A, c, rfl, h1, h2, h3⟩ := h.1.form
  refine (impl_bigMakeV s A m c w (by unfold maxLen at h2; omega)).mono fun _ w' ⟨he, hw⟩ => ?_
  by_cases hp : 0 < m ∧ m < pw 60
  · unfold mkB at he
    rw [if_pos hp] at he
    exact ⟨_, _, _, _, he, (bigZ_neg hp.1).symm, h.below hw hh, hw⟩
  · unfold mkB at he
    rw [if_neg hp] at he
    have h0 : m = 0 := by omega
    subst h0
    refine ⟨_, _, _, _, he, by rw [bigZ_zero]; rfl, ?_, hw⟩
    rw [toL_zero]
    exact ⟨Own.nil _ _ _, fun k hk => by cases hk⟩

set_option maxHeartbeats 4000000 in
theorem impl_ratMake (s t : Bool) (A B : Option Addr) (n c k d : Nat) (m l : Nat) (w : World) (hu : Sl w (.slice A n c) (toL m)) (hv : Sl w (.slice B k d) (toL l)) (hm : m < pw 150) (hl : l < pw 150) :
    Calls Tryz.prog 43 #[.agg #[.bool s, .slice A n c], .agg #[.bool t, .slice B k d]] w (RetQ (ratF (s != t) m l) w) := by
  have zz : w.heap.size < w.heap.size + 1 + 1 := by omega
  have nn := Nat.ne_of_lt zz
  have mm := (Nat.ne_of_lt zz).symm
  obtain rfl := hv.len
  have HU := Lib.hid hu
  have HV := Lib.hid hv
  have hlen : (toL l).length ≤ 150 := toL_len_lt hl
  have HM := Lib.hid (Nat.lt_of_lt_of_le hm (pw_le (show 150 ≤ 200 by omega)))
  have HL := Lib.hid (Nat.lt_of_lt_of_le hl (pw_le (show 150 ≤ 200 by omega)))
  have HM1 := Lib.hid hm
  have HL1 := Lib.hid hl
  clear hu hv hm hl
  rcases Nat.eq_zero_or_pos l with h0 | h0
  · subst h0
    have HR := Lib.hid (show ratF (s != t) m 0 = (0, 0) from ratF_none (by omega))
    have hz0 : (toL 0).length = 0 := by rw [toL_zero]; rfl
    clear hlen
    rw [hz0]
    clear hz0
    go_enter Tryz.func43, Tryz.ntmps43
    go_wp2
    exact bodyPost_ret (v := .agg #[.bool false, .slice none 0 0, .slice none 0 0]) (by simp [results, Tryz.results43, go_sem, *]) rfl (retq_zero HR.out (by repeat' (first | (with_reducible exact Below.refl _ _) | (with_reducible refine Below.alloc ?_ ?_ _) | (with_reducible refine Below.setCell ?_ ?_ _) | (with_reducible refine below_drewN ?_ _) | (with_reducible refine Below.drew ?_) | (with_reducible refine below_step (by assumption) ?_ ?_) | omega | (simp; done) | (simp; omega))))
  obtain ⟨g, hg⟩ : ∃ g, g = Nat.gcd m l := ⟨_, rfl⟩
  have G0 : 0 < g := by rw [hg]; exact gcd_pos h0
  have HG := Lib.hid hg
  have HG0 := Lib.hid G0
  have H0 := Lib.hid h0
  have hb0 : (((toL l).length : Int) == 0) = false := beq_eq_false_iff_ne.2 (by have := toL_len_pos h0; omega)
  have HGL := Lib.hid (show g < pw 150 by rw [hg]; exact gcd_lt HM1.out HL1.out)
  clear hg G0 h0
  obtain ⟨q, hq⟩ : ∃ q, q = m / g := ⟨_, rfl⟩
  obtain ⟨p, hp⟩ : ∃ p, p = l / g := ⟨_, rfl⟩
  have HQ := Lib.hid hq
  have HP := Lib.hid hp
  clear hq hp
  have HF := Lib.hid (show ratF (s != t) m l = if 0 < l ∧ q < pw 24 ∧ p < pw 24 then (bigZ (s != t) q, p) else (0, 0) by unfold ratF; rw [HQ.out, HP.out, HG.out])
  have hlq : (toL q).length ≤ 150 := by rw [HQ.out]; exact toL_len_lt (Nat.lt_of_le_of_lt (Nat.div_le_self _ _) HM1.out)
  have hlp : (toL p).length ≤ 150 := by rw [HP.out]; exact toL_len_lt (Nat.lt_of_le_of_lt (Nat.div_le_self _ _) HL1.out)
  go_enter Tryz.func43, Tryz.ntmps43
  go_wp2_with fail
  (with_reducible refine (impl_natGcd _ _ m l _ (HU.out.below (by repeat' (first | (with_reducible exact Below.refl _ _) | (with_reducible refine Below.alloc ?_ ?_ _) | (with_reducible refine Below.setCell ?_ ?_ _) | (with_reducible refine below_drewN ?_ _) | (with_reducible refine Below.drew ?_) | (with_reducible refine below_step (by assumption) ?_ ?_) | omega | (simp; done) | (simp; omega)))) (HV.out.below (by repeat' (first | (with_reducible exact Below.refl _ _) | (with_reducible refine Below.alloc ?_ ?_ _) | (with_reducible refine Below.setCell ?_ ?_ _) | (with_reducible refine below_drewN ?_ _) | (with_reducible refine Below.drew ?_) | (with_reducible refine below_step (by assumption) ?_ ?_) | omega | (simp; done) | (simp; omega)))) HM1.out HL1.out).mono ?_); rintro e w1 ⟨r1, rfl, o1, b1⟩; obtain ⟨hc1, hf1⟩ := bxcell b1; have q1_0 := fun o => hc1 (w.heap.size) o (by first | omega | (simp; done) | (simp; omega)); have q1_1 := fun o => hc1 (w.heap.size + 1) o (by first | omega | (simp; done) | (simp; omega)); have q1_2 := fun o => hc1 (w.heap.size + 1 + 1) o (by first | omega | (simp; done) | (simp; omega)); have f1_0 := fun o => hf1 (w.heap.size) o (by first | omega | (simp; done) | (simp; omega)); have f1_1 := fun o => hf1 (w.heap.size + 1) o (by first | omega | (simp; done) | (simp; omega)); have f1_2 := fun o => hf1 (w.heap.size + 1 + 1) o (by first | omega | (simp; done) | (simp; omega)); have hz1 := b1.size; (try simp at hz1); have z1_0 : w.heap.size < w1.heap.size := (by omega); have n1_0 := Nat.ne_of_lt z1_0; have m1_0 := (Nat.ne_of_lt z1_0).symm; have z1_1 : w.heap.size + 1 < w1.heap.size := (by omega); have n1_1 := Nat.ne_of_lt z1_1; have m1_1 := (Nat.ne_of_lt z1_1).symm; have z1_2 : w.heap.size + 1 + 1 < w1.heap.size := (by omega); have n1_2 := Nat.ne_of_lt z1_2; have m1_2 := (Nat.ne_of_lt z1_2).symm
  rw [← HG.out] at o1
  have O1 := Lib.hid o1.sl
  clear o1
  go_wp2_with fail
  (with_reducible refine (impl_quo _ _ m g q _ (HU.out.below (by repeat' (first | (with_reducible exact Below.refl _ _) | (with_reducible refine Below.alloc ?_ ?_ _) | (with_reducible refine Below.setCell ?_ ?_ _) | (with_reducible refine below_drewN ?_ _) | (with_reducible refine Below.drew ?_) | (with_reducible refine below_step (by assumption) ?_ ?_) | omega | (simp; done) | (simp; omega)))) (O1.out.below (by repeat' (first | (with_reducible exact Below.refl _ _) | (with_reducible refine Below.alloc ?_ ?_ _) | (with_reducible refine Below.setCell ?_ ?_ _) | (with_reducible refine below_drewN ?_ _) | (with_reducible refine Below.drew ?_) | (with_reducible refine below_step (by assumption) ?_ ?_) | omega | (simp; done) | (simp; omega)))) HG0.out HM.out HGL.out HQ.out).mono ?_); rintro e w2 ⟨A2, n2, c2, s2, lo2, hi2, rfl, hn2, o2, la2, lb2, lc2, b2⟩; obtain ⟨hc2, hf2⟩ := bxcell b2; have q2_0 := fun o => hc2 (w.heap.size) o (by first | omega | (simp; done) | (simp; omega)); have q2_1 := fun o => hc2 (w.heap.size + 1) o (by first | omega | (simp; done) | (simp; omega)); have q2_2 := fun o => hc2 (w.heap.size + 1 + 1) o (by first | omega | (simp; done) | (simp; omega)); have f2_0 := fun o => hf2 (w.heap.size) o (by first | omega | (simp; done) | (simp; omega)); have f2_1 := fun o => hf2 (w.heap.size + 1) o (by first | omega | (simp; done) | (simp; omega)); have f2_2 := fun o => hf2 (w.heap.size + 1 + 1) o (by first | omega | (simp; done) | (simp; omega)); have hz2 := b2.size; (try simp at hz2); have z2_0 : w.heap.size < w2.heap.size := (by omega); have n2_0 := Nat.ne_of_lt z2_0; have m2_0 := (Nat.ne_of_lt z2_0).symm; have z2_1 : w.heap.size + 1 < w2.heap.size := (by omega); have n2_1 := Nat.ne_of_lt z2_1; have m2_1 := (Nat.ne_of_lt z2_1).symm; have z2_2 : w.heap.size + 1 + 1 < w2.heap.size := (by omega); have n2_2 := Nat.ne_of_lt z2_2; have m2_2 := (Nat.ne_of_lt z2_2).symm; have O2 := Lib.hid o2; clear o2
  subst hn2
  go_wp2_with fail
  (with_reducible refine (impl_quo _ _ l g p _ (HV.out.below (by repeat' (first | (with_reducible exact Below.refl _ _) | (with_reducible refine Below.alloc ?_ ?_ _) | (with_reducible refine Below.setCell ?_ ?_ _) | (with_reducible refine below_drewN ?_ _) | (with_reducible refine Below.drew ?_) | (with_reducible refine below_step (by assumption) ?_ ?_) | omega | (simp; done) | (simp; omega)))) (O1.out.below (by repeat' (first | (with_reducible exact Below.refl _ _) | (with_reducible refine Below.alloc ?_ ?_ _) | (with_reducible refine Below.setCell ?_ ?_ _) | (with_reducible refine below_drewN ?_ _) | (with_reducible refine Below.drew ?_) | (with_reducible refine below_step (by assumption) ?_ ?_) | omega | (simp; done) | (simp; omega)))) HG0.out HL.out HGL.out HP.out).mono ?_); rintro e w3 ⟨A3, n3, c3, s3, lo3, hi3, rfl, hn3, o3, la3, lb3, lc3, b3⟩; obtain ⟨hc3, hf3⟩ := bxcell b3; have q3_0 := fun o => hc3 (w.heap.size) o (by first | omega | (simp; done) | (simp; omega)); have q3_1 := fun o => hc3 (w.heap.size + 1) o (by first | omega | (simp; done) | (simp; omega)); have q3_2 := fun o => hc3 (w.heap.size + 1 + 1) o (by first | omega | (simp; done) | (simp; omega)); have f3_0 := fun o => hf3 (w.heap.size) o (by first | omega | (simp; done) | (simp; omega)); have f3_1 := fun o => hf3 (w.heap.size + 1) o (by first | omega | (simp; done) | (simp; omega)); have f3_2 := fun o => hf3 (w.heap.size + 1 + 1) o (by first | omega | (simp; done) | (simp; omega)); have hz3 := b3.size; (try simp at hz3); have z3_0 : w.heap.size < w3.heap.size := (by omega); have n3_0 := Nat.ne_of_lt z3_0; have m3_0 := (Nat.ne_of_lt z3_0).symm; have z3_1 : w.heap.size + 1 < w3.heap.size := (by omega); have n3_1 := Nat.ne_of_lt z3_1; have m3_1 := (Nat.ne_of_lt z3_1).symm; have z3_2 : w.heap.size + 1 + 1 < w3.heap.size := (by omega); have n3_2 := Nat.ne_of_lt z3_2; have m3_2 := (Nat.ne_of_lt z3_2).symm; have O3 := Lib.hid o3; clear o3
  subst hn3
  by_cases h1 : q < pw 24
  · have h1' := len24.2 h1
    by_cases h2 : p < pw 24
    · have h2' := len24.2 h2
      have HR := Lib.hid (HF.out.trans (if_pos ⟨H0.out, h1, h2⟩))
      have H1 := Lib.hid h1
      clear h1 h2
      go_wp2_with fail
      (with_reducible refine (impl_makeR (!(s == t)) _ q lo2 hi2 _ (O2.out.below (by repeat' (first | (with_reducible exact Below.refl _ _) | (with_reducible refine Below.alloc ?_ ?_ _) | (with_reducible refine Below.setCell ?_ ?_ _) | (with_reducible refine below_drewN ?_ _) | (with_reducible refine Below.drew ?_) | (with_reducible refine below_step (by assumption) ?_ ?_) | omega | (simp; done) | (simp; omega))) (by first | omega | (simp; done) | (simp; omega))) H1.out (by first | omega | (simp; done) | (simp; omega))).mono ?_); rintro e w4 ⟨u4, A4, n4, c4, rfl, hu4, o4, b4⟩; obtain ⟨hc4, hf4⟩ := bxcell b4; have q4_0 := fun o => hc4 (w.heap.size) o (by first | omega | (simp; done) | (simp; omega)); have q4_1 := fun o => hc4 (w.heap.size + 1) o (by first | omega | (simp; done) | (simp; omega)); have q4_2 := fun o => hc4 (w.heap.size + 1 + 1) o (by first | omega | (simp; done) | (simp; omega)); have f4_0 := fun o => hf4 (w.heap.size) o (by first | omega | (simp; done) | (simp; omega)); have f4_1 := fun o => hf4 (w.heap.size + 1) o (by first | omega | (simp; done) | (simp; omega)); have f4_2 := fun o => hf4 (w.heap.size + 1 + 1) o (by first | omega | (simp; done) | (simp; omega)); have hz4 := b4.size; (try simp at hz4); have z4_0 : w.heap.size < w4.heap.size := (by omega); have n4_0 := Nat.ne_of_lt z4_0; have m4_0 := (Nat.ne_of_lt z4_0).symm; have z4_1 : w.heap.size + 1 < w4.heap.size := (by omega); have n4_1 := Nat.ne_of_lt z4_1; have m4_1 := (Nat.ne_of_lt z4_1).symm; have z4_2 : w.heap.size + 1 + 1 < w4.heap.size := (by omega); have n4_2 := Nat.ne_of_lt z4_2; have m4_2 := (Nat.ne_of_lt z4_2).symm; have O4 := Lib.hid o4; have HU4 := Lib.hid hu4; clear o4 hu4
      go_wp2
      exact bodyPost_ret (v := .agg #[.bool u4, .slice A4 n4 c4, .slice A3 (toL p).length c3]) (by simp [results, Tryz.results43, go_sem, *]) rfl (retq_made HR.out HU4.out (bigZ_abs _ _) (PairR.mk' (lo1 := lo2) (hi1 := hi2) (lo2 := lo3) (hi2 := hi3) (by have hfar := O4.out; repeat' (first | (with_reducible exact hfar) | (with_reducible refine OwnR.far ?_ _ _ ?_) | (with_reducible refine OwnR.allocd ?_ _ ?_) | (left; first | omega | (simp; done) | (simp; omega)) | (right; first | omega | (simp; done) | (simp; omega)) | omega | (simp; done) | (simp; omega) | (exact hfar))) (by have hfar := O3.out.below b4 (by first | omega | (simp; done) | (simp; omega)); repeat' (first | (with_reducible exact hfar) | (with_reducible refine OwnR.far ?_ _ _ ?_) | (with_reducible refine OwnR.allocd ?_ _ ?_) | (left; first | omega | (simp; done) | (simp; omega)) | (right; first | omega | (simp; done) | (simp; omega)) | omega | (simp; done) | (simp; omega) | (exact hfar))) (by first | omega | (simp; done) | (simp; omega)) (by first | omega | (simp; done) | (simp; omega)) (.inl (by first | omega | (simp; done) | (simp; omega))) (by first | omega | (simp; done) | (simp; omega)) (by first | omega | (simp; done) | (simp; omega)) (by first | omega | (simp; done) | (simp; omega)) (by first | omega | (simp; done) | (simp; omega))) (by repeat' (first | (with_reducible exact Below.refl _ _) | (with_reducible refine Below.alloc ?_ ?_ _) | (with_reducible refine Below.setCell ?_ ?_ _) | (with_reducible refine below_drewN ?_ _) | (with_reducible refine Below.drew ?_) | (with_reducible refine below_step (by assumption) ?_ ?_) | omega | (simp; done) | (simp; omega))))
    · have h2' := len24' h2
      have HR := Lib.hid (HF.out.trans (if_neg (fun h => h2 h.2.2)))
      clear h1 h2
      go_wp2
      exact bodyPost_ret (v := .agg #[.bool false, .slice none 0 0, .slice none 0 0]) (by simp [results, Tryz.results43, go_sem, *]) rfl (retq_zero HR.out (by repeat' (first | (with_reducible exact Below.refl _ _) | (with_reducible refine Below.alloc ?_ ?_ _) | (with_reducible refine Below.setCell ?_ ?_ _) | (with_reducible refine below_drewN ?_ _) | (with_reducible refine Below.drew ?_) | (with_reducible refine below_step (by assumption) ?_ ?_) | omega | (simp; done) | (simp; omega))))
  · have h1' := len24' h1
    have HR := Lib.hid (HF.out.trans (if_neg (fun h => h1 h.2.1)))
    clear h1
    go_wp2
    exact bodyPost_ret (v := .agg #[.bool false, .slice none 0 0, .slice none 0 0]) (by simp [results, Tryz.results43, go_sem, *]) rfl (retq_zero HR.out (by repeat' (first | (with_reducible exact Below.refl _ _) | (with_reducible refine Below.alloc ?_ ?_ _) | (with_reducible refine Below.setCell ?_ ?_ _) | (with_reducible refine below_drewN ?_ _) | (with_reducible refine Below.drew ?_) | (with_reducible refine below_step (by assumption) ?_ ?_) | omega | (simp; done) | (simp; omega))))
end Go.Proofs.YticekjagmcphbaaGreatDoor
