/-
  Contracts: the inner functions on fractions, both packages. Written by an AI agent.
-/
import Derived.Test.YticekjagmcphbaaGreatDoorRatOk
import Derived.Test.YticekjagmcphbaaGreatDoorBox
import Derived.Deep.RegionHeld3
namespace Go.Proofs.YticekjagmcphbaaGreatDoor
open Go.RowKit

/-- A big int of the call's own is handed back that is the integer z; its magnitude is q. -/
def GiveZ (z : Int) (w : World) (en : Ending) (w' : World) : Prop :=
  ∃ u q A n c, en = .returned (.agg #[.bool u, .slice A n c]) ∧ bigZ u q = z ∧ (u = true → 0 < q) ∧ n = (toL q).length ∧ OwnR w' w.heap.size w'.heap.size 3 (.slice A n c) (toL q) ∧ Below w.heap.size w w'
theorem MadeZ.give {lo : Nat} {r : Int} {w w' : World} {en : Ending} (h : MadeZ lo r w en w') (hl : w.heap.size ≤ lo) : GiveZ r w en w' := by
  obtain ⟨s, A, n, c, e, hs, o, b⟩ := h
  refine ⟨s, r.natAbs, A, n, c, e, ?_, ?_, o.sl.len, (OwnR.of o).wide hl (Nat.le_refl _), b⟩
  · subst hs
    unfold bigZ
    by_cases h : r < 0
    · rw [decide_eq_true h, if_pos rfl]
      omega
    · rw [decide_eq_false h, if_neg (by simp)]
      omega
  · intro h
    rw [h] at hs
    have := of_decide_eq_true hs.symm
    omega
theorem bigZ_eq {u : Bool} {q : Nat} {z : Int} (h : bigZ u q = z) : q = z.natAbs := by rw [← h, bigZ_abs]
theorem pw_mul {a b i j : Nat} (ha : a < pw i) (hb : b < pw j) : a * b < pw (i + j) := by
  rw [pw_add]
  exact Nat.mul_lt_mul'' ha hb
theorem mul_lt {m l : Nat} (hm : m < pw 24) (hl : l < pw 24) : m * l < pw 48 := pw_mul hm hl
theorem abs_mul {s t : Bool} {m l : Nat} : (bigZ s m * bigZ t l).natAbs = m * l := by rw [bigZ_mul, bigZ_abs]
theorem lim_mul {s t : Bool} {m l : Nat} (hm : m < pw 24) (hl : l < pw 24) : limZ (bigZ s m * bigZ t l) = bigZ s m * bigZ t l := limZ_eq (by rw [abs_mul]; exact Nat.lt_of_lt_of_le (mul_lt hm hl) (pw_le (by omega)))
theorem pw_two {m l k : Nat} (hm : m < pw k) (hl : l < pw k) : m + l < pw (k + 1) := by
  rw [pw_succ]
  omega
theorem lim_add {s t : Bool} {m l : Nat} (hm : m < pw 49) (hl : l < pw 49) : limZ (bigZ s m + bigZ t l) = bigZ s m + bigZ t l := limZ_eq (by
  have h := pw_two hm hl
  have h1 : (bigZ s m + bigZ t l).natAbs ≤ m + l := by
    have := Int.natAbs_add_le (bigZ s m) (bigZ t l)
    rw [bigZ_abs, bigZ_abs] at this
    exact this
  exact Nat.lt_of_le_of_lt h1 (Nat.lt_of_lt_of_le h (pw_le (by omega))))
theorem lt200' {m k : Nat} (h : m < pw k) (hk : k ≤ 200) : m < pw 200 := Nat.lt_of_lt_of_le h (pw_le hk)
theorem lt150 {m k : Nat} (h : m < pw k) (hk : k ≤ 150) : m < pw 150 := Nat.lt_of_lt_of_le h (pw_le hk)
/-- The sign of zero does not count. -/
theorem ratF_sign (u v : Bool) (b : Nat) : ratF u 0 b = ratF v 0 b := by
  unfold ratF
  rw [Nat.zero_div, bigZ_zero, bigZ_zero]
/-- The fraction of an integer and a denominator. -/
def ratZ (z : Int) (b : Nat) : Int × Nat := ratF (decide (z < 0)) z.natAbs b
theorem ratF_of {u : Bool} {q : Nat} {z : Int} (b : Nat) (h : bigZ u q = z) : ratF u q b = ratZ z b := by
  subst h
  unfold ratZ
  rw [bigZ_abs]
  rcases Nat.eq_zero_or_pos q with h0 | h0
  · subst h0
    exact ratF_sign _ _ _
  · rw [bigZ_neg h0]
theorem pos_sign {u : Bool} {q b : Nat} (h : bigZ u q = (b : Int)) (hp : u = true → 0 < q) : u = false ∧ q = b := by
  cases u
  · simp [bigZ] at h
    exact ⟨rfl, by omega⟩
  · have := hp rfl
    simp [bigZ] at h
    omega
/-- A fraction of the call's own is handed back. -/
theorem retq_of {p p' : Int × Nat} {w w' : World} {en : Ending} (h : RetQ p' w en w') (e : p = p') : RetQ p w en w' := e ▸ h
/-- The same, opened for the walk. -/
def GiveQ (p : Int × Nat) (w : World) (en : Ending) (w' : World) : Prop :=
  ∃ u A n c B k d, en = .returned (.agg #[.bool u, .slice A n c, .slice B k d]) ∧ u = decide (p.1 < 0) ∧ PairR w' w.heap.size w'.heap.size 3 (.slice A n c) (.slice B k d) (toL p.1.natAbs) (toL p.2) ∧ Below w.heap.size w w'
theorem RetQ.give {p : Int × Nat} {w w' : World} {en : Ending} (h : RetQ p w en w') : GiveQ p w en w' := by
  obtain ⟨A, n, c, B, k, d, e, o, b⟩ := h
  exact ⟨_, A, n, c, B, k, d, e, rfl, o, b⟩
theorem GiveQ.to {p p' : Int × Nat} {u : Bool} {A B : Option Addr} {n c k d : Nat} {w w' : World} (e : p = p') (hu : u = decide (p'.1 < 0)) (o : PairR w' w.heap.size w'.heap.size 3 (.slice A n c) (.slice B k d) (toL p'.1.natAbs) (toL p'.2)) (b : Below w.heap.size w w') :
    RetQ p w (.returned (.agg #[.bool u, .slice A n c, .slice B k d])) w' := by
  subst e hu
  exact ⟨_, _, _, _, _, _, rfl, o, b⟩

theorem impl_good (s : Bool) (A B : Option Addr) (n c k d l : Nat) (w : World) (hv : Sl w (.slice B k d) (toL l)) (h0 : 0 < l) :
    Calls Tryz.prog 42 #[.agg #[.bool s, .slice A n c, .slice B k d]] w fun e w' => e = .returned (.bool true) ∧ Below w.heap.size w w' := by
  obtain rfl := hv.len
  have hp : (0 : Int) < ((toL l).length : Int) := by have := toL_len_pos h0; omega
  have hlen : (toL l).length ≤ 9223372036854775807 := by
    obtain ⟨_, _, hv', p1, p2, _⟩ := hv
    cases hv'
    unfold maxLen at p2
    omega
  clear hv
  go_enter Tryz.func42, Tryz.ntmps42
  go_wp2
  go_ret
  exact ⟨ret_bool (decide_eq_true (by omega)), (by repeat' (first | (with_reducible exact Below.refl _ _) | (with_reducible refine Below.alloc ?_ ?_ _) | (with_reducible refine Below.setCell ?_ ?_ _) | (with_reducible refine below_drewN ?_ _) | (with_reducible refine Below.drew ?_) | (with_reducible refine below_step (by assumption) ?_ ?_) | omega | (simp; done) | (simp; omega)))⟩
set_option maxHeartbeats 400000 in
theorem impl_denOf (s : Bool) (A B : Option Addr) (n c k d : Nat) (w : World) :
    Calls Tryz.prog 45 #[.agg #[.bool s, .slice A n c, .slice B k d]] w fun e w' => e = .returned (.agg #[.bool false, .slice B k d]) ∧ Below w.heap.size w w' := by
  go_enter Tryz.func45, Tryz.ntmps45
  go_wp2
  exact bodyPost_ret (v := .agg #[.bool false, .slice B k d]) (by simp [results, Tryz.results45, go_sem]) rfl ⟨rfl, (by repeat' (first | (with_reducible exact Below.refl _ _) | (with_reducible refine Below.alloc ?_ ?_ _) | (with_reducible refine Below.setCell ?_ ?_ _) | (with_reducible refine below_drewN ?_ _) | (with_reducible refine Below.drew ?_) | (with_reducible refine below_step (by assumption) ?_ ?_) | omega | (simp; done) | (simp; omega)))⟩
theorem impl_mulG (s t : Bool) (A B : Option Addr) (n c k d : Nat) (m l : Nat) (w : World) (hu : Sl w (.slice A n c) (toL m)) (hv : Sl w (.slice B k d) (toL l)) (hm : m < pw 24) (hl : l < pw 24) :
    Calls Tryz.prog 44 #[.agg #[.bool s, .slice A n c], .agg #[.bool t, .slice B k d]] w (GiveZ (bigZ s m * bigZ t l) w) :=
  (impl_bigMul s t A B n c k d m l w hu hv (lt200' hm (by omega)) (lt200' hl (by omega))).mono fun _ _ h => by
    have := h.give (Nat.le_refl _)
    rwa [lim_mul hm hl] at this
theorem impl_makeG (s t : Bool) (A B : Option Addr) (n c k d : Nat) (m l : Nat) (w : World) (hu : Sl w (.slice A n c) (toL m)) (hv : Sl w (.slice B k d) (toL l)) (hm : m < pw 150) (hl : l < pw 150) :
    Calls Tryz.prog 43 #[.agg #[.bool s, .slice A n c], .agg #[.bool t, .slice B k d]] w (GiveQ (ratF (s != t) m l) w) := (impl_ratMake s t A B n c k d m l w hu hv hm hl).mono fun _ _ h => h.give
theorem ltq {u : Bool} {q m l : Nat} {s t : Bool} (h : bigZ u q = bigZ s m * bigZ t l) (hm : m < pw 24) (hl : l < pw 24) : q < pw 48 := by
  rw [bigZ_eq h, abs_mul]
  exact mul_lt hm hl
theorem mul_lem {s t u3 u6 : Bool} {q3 q6 m1 m2 l1 l2 : Nat} (h3 : bigZ u3 q3 = bigZ s m1 * bigZ t m2) (h6 : bigZ u6 q6 = bigZ false l1 * bigZ false l2) (p6 : u6 = true → 0 < q6) : ratZ (bigZ s m1 * bigZ t m2) (l1 * l2) = ratF (u3 != u6) q3 q6 := by
  have h : bigZ u6 q6 = ((l1 * l2 : Nat) : Int) := by rw [h6]; simp [bigZ]
  obtain ⟨rfl, rfl⟩ := pos_sign h p6
  rw [← ratF_of _ h3]
  cases u3 <;> rfl

set_option maxRecDepth 100000 in
set_option maxHeartbeats 8000000 in
theorem impl_ratMul (s t : Bool) (A1 B1 A2 B2 : Option Addr) (n1 c1 k1 d1 n2 c2 k2 d2 : Nat) (m1 l1 m2 l2 : Nat) (w : World) (u1 : Sl w (.slice A1 n1 c1) (toL m1)) (u2 : Sl w (.slice B1 k1 d1) (toL l1)) (v1 : Sl w (.slice A2 n2 c2) (toL m2)) (v2 : Sl w (.slice B2 k2 d2) (toL l2)) (hm1 : m1 < pw 24) (hl1 : l1 < pw 24) (hm2 : m2 < pw 24) (hl2 : l2 < pw 24) (h01 : 0 < l1) (h02 : 0 < l2) :
    Calls Tryz.prog 23 #[.agg #[.bool s, .slice A1 n1 c1, .slice B1 k1 d1], .agg #[.bool t, .slice A2 n2 c2, .slice B2 k2 d2]] w (RetQ (ratZ (bigZ s m1 * bigZ t m2) (l1 * l2)) w) := by
  have U1 := Lib.hid u1
  have U2 := Lib.hid u2
  have V1 := Lib.hid v1
  have V2 := Lib.hid v2
  have M1 := Lib.hid hm1
  have L1 := Lib.hid hl1
  have M2 := Lib.hid hm2
  have L2 := Lib.hid hl2
  have P1 := Lib.hid h01
  have P2 := Lib.hid h02
  clear u1 u2 v1 v2 hm1 hl1 hm2 hl2 h01 h02
  have zz : w.heap.size < w.heap.size + 1 + 1 := by omega
  have nn := Nat.ne_of_lt zz
  have mm := (Nat.ne_of_lt zz).symm
  go_enter Tryz.func23, Tryz.ntmps23
  go_wp2_with fail
  (with_reducible refine (impl_good s A1 B1 n1 c1 k1 d1 l1 _ (U2.out.below (by repeat' (first | (with_reducible exact Below.refl _ _) | (with_reducible refine Below.alloc ?_ ?_ _) | (with_reducible refine Below.setCell ?_ ?_ _) | (with_reducible refine below_drewN ?_ _) | (with_reducible refine Below.drew ?_) | (with_reducible refine below_step (by assumption) ?_ ?_) | omega | (simp; done) | (simp; omega)))) P1.out).mono ?_); rintro e w1 ⟨rfl, b1⟩; obtain ⟨hc1, hf1⟩ := bxcell b1; have q1_0 := fun o => hc1 (w.heap.size) o (by first | omega | (simp; done) | (simp; omega)); have q1_1 := fun o => hc1 (w.heap.size + 1) o (by first | omega | (simp; done) | (simp; omega)); have q1_2 := fun o => hc1 (w.heap.size + 1 + 1) o (by first | omega | (simp; done) | (simp; omega)); have f1_0 := fun o => hf1 (w.heap.size) o (by first | omega | (simp; done) | (simp; omega)); have f1_1 := fun o => hf1 (w.heap.size + 1) o (by first | omega | (simp; done) | (simp; omega)); have f1_2 := fun o => hf1 (w.heap.size + 1 + 1) o (by first | omega | (simp; done) | (simp; omega)); have hz1 := b1.size; (try simp at hz1); have z1_0 : w.heap.size < w1.heap.size := (by omega); have n1_0 := Nat.ne_of_lt z1_0; have m1_0 := (Nat.ne_of_lt z1_0).symm; have z1_1 : w.heap.size + 1 < w1.heap.size := (by omega); have n1_1 := Nat.ne_of_lt z1_1; have m1_1 := (Nat.ne_of_lt z1_1).symm; have z1_2 : w.heap.size + 1 + 1 < w1.heap.size := (by omega); have n1_2 := Nat.ne_of_lt z1_2; have m1_2 := (Nat.ne_of_lt z1_2).symm
  go_wp2_with fail
  (with_reducible refine (impl_good t A2 B2 n2 c2 k2 d2 l2 _ (V2.out.below (by repeat' (first | (with_reducible exact Below.refl _ _) | (with_reducible refine Below.alloc ?_ ?_ _) | (with_reducible refine Below.setCell ?_ ?_ _) | (with_reducible refine below_drewN ?_ _) | (with_reducible refine Below.drew ?_) | (with_reducible refine below_step (by assumption) ?_ ?_) | omega | (simp; done) | (simp; omega)))) P2.out).mono ?_); rintro e w2 ⟨rfl, b2⟩; obtain ⟨hc2, hf2⟩ := bxcell b2; have q2_0 := fun o => hc2 (w.heap.size) o (by first | omega | (simp; done) | (simp; omega)); have q2_1 := fun o => hc2 (w.heap.size + 1) o (by first | omega | (simp; done) | (simp; omega)); have q2_2 := fun o => hc2 (w.heap.size + 1 + 1) o (by first | omega | (simp; done) | (simp; omega)); have f2_0 := fun o => hf2 (w.heap.size) o (by first | omega | (simp; done) | (simp; omega)); have f2_1 := fun o => hf2 (w.heap.size + 1) o (by first | omega | (simp; done) | (simp; omega)); have f2_2 := fun o => hf2 (w.heap.size + 1 + 1) o (by first | omega | (simp; done) | (simp; omega)); have hz2 := b2.size; (try simp at hz2); have z2_0 : w.heap.size < w2.heap.size := (by omega); have n2_0 := Nat.ne_of_lt z2_0; have m2_0 := (Nat.ne_of_lt z2_0).symm; have z2_1 : w.heap.size + 1 < w2.heap.size := (by omega); have n2_1 := Nat.ne_of_lt z2_1; have m2_1 := (Nat.ne_of_lt z2_1).symm; have z2_2 : w.heap.size + 1 + 1 < w2.heap.size := (by omega); have n2_2 := Nat.ne_of_lt z2_2; have m2_2 := (Nat.ne_of_lt z2_2).symm
  go_wp2_with fail
  have ka0 : w2.cell? ⟨w.heap.size, 0, none⟩ = some (.bool s) := by simp [go_sem, *]
  have ka1 : w2.cell? ⟨w.heap.size, 1, none⟩ = some (.slice A1 n1 c1) := by simp [go_sem, *]
  have ka2 : w2.cell? ⟨w.heap.size, 2, none⟩ = some (.slice B1 k1 d1) := by simp [go_sem, *]
  have kb0 : w2.cell? ⟨w.heap.size + 1, 0, none⟩ = some (.bool t) := by simp [go_sem, *]
  have kb1 : w2.cell? ⟨w.heap.size + 1, 1, none⟩ = some (.slice A2 n2 c2) := by simp [go_sem, *]
  have kb2 : w2.cell? ⟨w.heap.size + 1, 2, none⟩ = some (.slice B2 k2 d2) := by simp [go_sem, *]
  have kr0 : w2.cell? ⟨w.heap.size + 1 + 1, 0, none⟩ = some (.bool false) := by simp [go_sem, *]
  have kf0 : w2.frozen? ⟨w.heap.size + 1 + 1, 0, none⟩ = false := by simp [go_sem, *]
  have kr1 : w2.cell? ⟨w.heap.size + 1 + 1, 1, none⟩ = some (.slice none 0 0) := by simp [go_sem, *]
  have kf1 : w2.frozen? ⟨w.heap.size + 1 + 1, 1, none⟩ = false := by simp [go_sem, *]
  have kr2 : w2.cell? ⟨w.heap.size + 1 + 1, 2, none⟩ = some (.slice none 0 0) := by simp [go_sem, *]
  have kf2 : w2.frozen? ⟨w.heap.size + 1 + 1, 2, none⟩ = false := by simp [go_sem, *]
  clear hc1 hf1 q1_0 f1_0 q1_1 f1_1 q1_2 f1_2 hc2 hf2 q2_0 f2_0 q2_1 f2_1 q2_2 f2_2
  go_region_held3 (fun w' => w'.cell? ⟨w.heap.size, 0, none⟩ = some (.bool s) ∧ w'.cell? ⟨w.heap.size, 1, none⟩ = some (.slice A1 n1 c1) ∧ w'.cell? ⟨w.heap.size, 2, none⟩ = some (.slice B1 k1 d1) ∧ w'.cell? ⟨w.heap.size + 1, 0, none⟩ = some (.bool t) ∧ w'.cell? ⟨w.heap.size + 1, 1, none⟩ = some (.slice A2 n2 c2) ∧ w'.cell? ⟨w.heap.size + 1, 2, none⟩ = some (.slice B2 k2 d2)) (go_keep)
    (first
      | (go_at_call 44; (with_reducible refine (impl_mulG s t A1 A2 n1 c1 n2 c2 m1 m2 _ (U1.out.below (by repeat' (first | (with_reducible exact Below.refl _ _) | (with_reducible refine Below.alloc ?_ ?_ _) | (with_reducible refine Below.setCell ?_ ?_ _) | (with_reducible refine below_drewN ?_ _) | (with_reducible refine Below.drew ?_) | (with_reducible refine below_step (by assumption) ?_ ?_) | omega | (simp; done) | (simp; omega)))) (V1.out.below (by repeat' (first | (with_reducible exact Below.refl _ _) | (with_reducible refine Below.alloc ?_ ?_ _) | (with_reducible refine Below.setCell ?_ ?_ _) | (with_reducible refine below_drewN ?_ _) | (with_reducible refine Below.drew ?_) | (with_reducible refine below_step (by assumption) ?_ ?_) | omega | (simp; done) | (simp; omega)))) M1.out M2.out).mono ?_); rintro e w3 ⟨u3, q3, A3, n3, c3, rfl, hy3, hp3, hn3, o3, b3⟩; obtain ⟨hc3, hf3⟩ := bxcell b3; have q3_0 := fun o => hc3 (w.heap.size) o (by first | omega | (simp; done) | (simp; omega)); have q3_1 := fun o => hc3 (w.heap.size + 1) o (by first | omega | (simp; done) | (simp; omega)); have q3_2 := fun o => hc3 (w.heap.size + 1 + 1) o (by first | omega | (simp; done) | (simp; omega)); have f3_0 := fun o => hf3 (w.heap.size) o (by first | omega | (simp; done) | (simp; omega)); have f3_1 := fun o => hf3 (w.heap.size + 1) o (by first | omega | (simp; done) | (simp; omega)); have f3_2 := fun o => hf3 (w.heap.size + 1 + 1) o (by first | omega | (simp; done) | (simp; omega)); have hz3 := b3.size; (try simp at hz3); have z3_0 : w.heap.size < w3.heap.size := (by omega); have n3_0 := Nat.ne_of_lt z3_0; have m3_0 := (Nat.ne_of_lt z3_0).symm; have z3_1 : w.heap.size + 1 < w3.heap.size := (by omega); have n3_1 := Nat.ne_of_lt z3_1; have m3_1 := (Nat.ne_of_lt z3_1).symm; have z3_2 : w.heap.size + 1 + 1 < w3.heap.size := (by omega); have n3_2 := Nat.ne_of_lt z3_2; have m3_2 := (Nat.ne_of_lt z3_2).symm; subst hn3; have Z3 := Lib.hid hy3; have HP3 := Lib.hid hp3; have O3 := Lib.hid o3; clear hy3 hp3 o3)
      | (go_at_call 45; (with_reducible refine (impl_denOf s A1 B1 n1 c1 k1 d1 _).mono ?_); rintro e w4 ⟨rfl, b4⟩; obtain ⟨hc4, hf4⟩ := bxcell b4; have q4_0 := fun o => hc4 (w.heap.size) o (by first | omega | (simp; done) | (simp; omega)); have q4_1 := fun o => hc4 (w.heap.size + 1) o (by first | omega | (simp; done) | (simp; omega)); have q4_2 := fun o => hc4 (w.heap.size + 1 + 1) o (by first | omega | (simp; done) | (simp; omega)); have f4_0 := fun o => hf4 (w.heap.size) o (by first | omega | (simp; done) | (simp; omega)); have f4_1 := fun o => hf4 (w.heap.size + 1) o (by first | omega | (simp; done) | (simp; omega)); have f4_2 := fun o => hf4 (w.heap.size + 1 + 1) o (by first | omega | (simp; done) | (simp; omega)); have hz4 := b4.size; (try simp at hz4); have z4_0 : w.heap.size < w4.heap.size := (by omega); have n4_0 := Nat.ne_of_lt z4_0; have m4_0 := (Nat.ne_of_lt z4_0).symm; have z4_1 : w.heap.size + 1 < w4.heap.size := (by omega); have n4_1 := Nat.ne_of_lt z4_1; have m4_1 := (Nat.ne_of_lt z4_1).symm; have z4_2 : w.heap.size + 1 + 1 < w4.heap.size := (by omega); have n4_2 := Nat.ne_of_lt z4_2; have m4_2 := (Nat.ne_of_lt z4_2).symm)
      | (go_at_call 45; (with_reducible refine (impl_denOf t A2 B2 n2 c2 k2 d2 _).mono ?_); rintro e w5 ⟨rfl, b5⟩; obtain ⟨hc5, hf5⟩ := bxcell b5; have q5_0 := fun o => hc5 (w.heap.size) o (by first | omega | (simp; done) | (simp; omega)); have q5_1 := fun o => hc5 (w.heap.size + 1) o (by first | omega | (simp; done) | (simp; omega)); have q5_2 := fun o => hc5 (w.heap.size + 1 + 1) o (by first | omega | (simp; done) | (simp; omega)); have f5_0 := fun o => hf5 (w.heap.size) o (by first | omega | (simp; done) | (simp; omega)); have f5_1 := fun o => hf5 (w.heap.size + 1) o (by first | omega | (simp; done) | (simp; omega)); have f5_2 := fun o => hf5 (w.heap.size + 1 + 1) o (by first | omega | (simp; done) | (simp; omega)); have hz5 := b5.size; (try simp at hz5); have z5_0 : w.heap.size < w5.heap.size := (by omega); have n5_0 := Nat.ne_of_lt z5_0; have m5_0 := (Nat.ne_of_lt z5_0).symm; have z5_1 : w.heap.size + 1 < w5.heap.size := (by omega); have n5_1 := Nat.ne_of_lt z5_1; have m5_1 := (Nat.ne_of_lt z5_1).symm; have z5_2 : w.heap.size + 1 + 1 < w5.heap.size := (by omega); have n5_2 := Nat.ne_of_lt z5_2; have m5_2 := (Nat.ne_of_lt z5_2).symm)
      | (go_at_call 44; (with_reducible refine (impl_mulG false false B1 B2 k1 d1 k2 d2 l1 l2 _ (U2.out.below (by repeat' (first | (with_reducible exact Below.refl _ _) | (with_reducible refine Below.alloc ?_ ?_ _) | (with_reducible refine Below.setCell ?_ ?_ _) | (with_reducible refine below_drewN ?_ _) | (with_reducible refine Below.drew ?_) | (with_reducible refine below_step (by assumption) ?_ ?_) | omega | (simp; done) | (simp; omega)))) (V2.out.below (by repeat' (first | (with_reducible exact Below.refl _ _) | (with_reducible refine Below.alloc ?_ ?_ _) | (with_reducible refine Below.setCell ?_ ?_ _) | (with_reducible refine below_drewN ?_ _) | (with_reducible refine Below.drew ?_) | (with_reducible refine below_step (by assumption) ?_ ?_) | omega | (simp; done) | (simp; omega)))) L1.out L2.out).mono ?_); rintro e w6 ⟨u6, q6, A6, n6, c6, rfl, hy6, hp6, hn6, o6, b6⟩; obtain ⟨hc6, hf6⟩ := bxcell b6; have q6_0 := fun o => hc6 (w.heap.size) o (by first | omega | (simp; done) | (simp; omega)); have q6_1 := fun o => hc6 (w.heap.size + 1) o (by first | omega | (simp; done) | (simp; omega)); have q6_2 := fun o => hc6 (w.heap.size + 1 + 1) o (by first | omega | (simp; done) | (simp; omega)); have f6_0 := fun o => hf6 (w.heap.size) o (by first | omega | (simp; done) | (simp; omega)); have f6_1 := fun o => hf6 (w.heap.size + 1) o (by first | omega | (simp; done) | (simp; omega)); have f6_2 := fun o => hf6 (w.heap.size + 1 + 1) o (by first | omega | (simp; done) | (simp; omega)); have hz6 := b6.size; (try simp at hz6); have z6_0 : w.heap.size < w6.heap.size := (by omega); have n6_0 := Nat.ne_of_lt z6_0; have m6_0 := (Nat.ne_of_lt z6_0).symm; have z6_1 : w.heap.size + 1 < w6.heap.size := (by omega); have n6_1 := Nat.ne_of_lt z6_1; have m6_1 := (Nat.ne_of_lt z6_1).symm; have z6_2 : w.heap.size + 1 + 1 < w6.heap.size := (by omega); have n6_2 := Nat.ne_of_lt z6_2; have m6_2 := (Nat.ne_of_lt z6_2).symm; subst hn6; have Z6 := Lib.hid hy6; have HP6 := Lib.hid hp6; have O6 := Lib.hid o6; clear hy6 hp6 o6)
      | (go_at_call 43; (with_reducible refine (impl_makeG u3 u6 A3 A6 _ c3 _ c6 q3 q6 _ (OwnR.here O3.out (by repeat' (first | (with_reducible exact Below.refl _ _) | (with_reducible refine Below.alloc ?_ ?_ _) | (with_reducible refine Below.setCell ?_ ?_ _) | (with_reducible refine below_drewN ?_ _) | (with_reducible refine Below.drew ?_) | (with_reducible refine below_step (by assumption) ?_ ?_) | omega | (simp; done) | (simp; omega)))).sl (OwnR.here O6.out (by repeat' (first | (with_reducible exact Below.refl _ _) | (with_reducible refine Below.alloc ?_ ?_ _) | (with_reducible refine Below.setCell ?_ ?_ _) | (with_reducible refine below_drewN ?_ _) | (with_reducible refine Below.drew ?_) | (with_reducible refine below_step (by assumption) ?_ ?_) | omega | (simp; done) | (simp; omega)))).sl (lt150 (ltq Z3.out M1.out M2.out) (by omega)) (lt150 (ltq Z6.out L1.out L2.out) (by omega))).mono ?_); rintro e w7 ⟨u7, A7, n7, c7, B7, k7, d7, rfl, hu7, o7, b7⟩; obtain ⟨hc7, hf7⟩ := bxcell b7; have q7_0 := fun o => hc7 (w.heap.size) o (by first | omega | (simp; done) | (simp; omega)); have q7_1 := fun o => hc7 (w.heap.size + 1) o (by first | omega | (simp; done) | (simp; omega)); have q7_2 := fun o => hc7 (w.heap.size + 1 + 1) o (by first | omega | (simp; done) | (simp; omega)); have f7_0 := fun o => hf7 (w.heap.size) o (by first | omega | (simp; done) | (simp; omega)); have f7_1 := fun o => hf7 (w.heap.size + 1) o (by first | omega | (simp; done) | (simp; omega)); have f7_2 := fun o => hf7 (w.heap.size + 1 + 1) o (by first | omega | (simp; done) | (simp; omega)); have hz7 := b7.size; (try simp at hz7); have z7_0 : w.heap.size < w7.heap.size := (by omega); have n7_0 := Nat.ne_of_lt z7_0; have m7_0 := (Nat.ne_of_lt z7_0).symm; have z7_1 : w.heap.size + 1 < w7.heap.size := (by omega); have n7_1 := Nat.ne_of_lt z7_1; have m7_1 := (Nat.ne_of_lt z7_1).symm; have z7_2 : w.heap.size + 1 + 1 < w7.heap.size := (by omega); have n7_2 := Nat.ne_of_lt z7_2; have m7_2 := (Nat.ne_of_lt z7_2).symm; have HU7 := Lib.hid hu7; have O7 := Lib.hid o7; clear hu7 o7))
  all_goals
    go_wp2
    exact bodyPost_ret (v := .agg #[.bool u7, .slice A7 n7 c7, .slice B7 k7 d7]) (by simp [results, Tryz.results23, go_sem, *]) rfl (GiveQ.to (mul_lem Z3.out Z6.out HP6.out) HU7.out (PairR.wide (lo := w6.heap.size) (hi := w7.heap.size) ((by have hfar := O7.out; repeat' (first | (with_reducible exact hfar) | (with_reducible refine PairR.far ?_ _ _ ?_) | (with_reducible refine PairR.allocd ?_ _ ?_) | (left; first | omega | (simp; done) | (simp; omega)) | (right; first | omega | (simp; done) | (simp; omega)) | omega | (simp; done) | (simp; omega) | (exact hfar)))) (by first | omega | (simp; done) | (simp; omega)) (by first | omega | (simp; done) | (simp; omega))) (by repeat' (first | (with_reducible exact Below.refl _ _) | (with_reducible refine Below.alloc ?_ ?_ _) | (with_reducible refine Below.setCell ?_ ?_ _) | (with_reducible refine below_drewN ?_ _) | (with_reducible refine Below.drew ?_) | (with_reducible refine below_step (by assumption) ?_ ?_) | omega | (simp; done) | (simp; omega))))
theorem sign_eq {u v : Bool} {q p : Nat} (h : bigZ u q = bigZ v p) (hq : 0 < q) : u = v := by
  have hp : q = p := by have := congrArg Int.natAbs h; rwa [bigZ_abs, bigZ_abs] at this
  subst hp
  rw [← bigZ_neg (s := u) hq, h, bigZ_neg hq]
theorem mul_pos' {t : Bool} (m l : Nat) : bigZ t m * bigZ false l = bigZ t (m * l) := by rw [bigZ_mul]; cases t <;> rfl
theorem div_lem {s t u3 u6 : Bool} {q3 q6 m1 m2 l1 l2 : Nat} (h3 : bigZ u3 q3 = bigZ s m1 * bigZ false l2) (h6 : bigZ u6 q6 = bigZ t m2 * bigZ false l1) : ratF (s != t) (m1 * l2) (l1 * m2) = ratF (u3 != u6) q3 q6 := by
  rw [mul_pos'] at h3 h6
  have e3 : q3 = m1 * l2 := by have := bigZ_eq h3; rwa [bigZ_abs] at this
  have e6 : q6 = m2 * l1 := by have := bigZ_eq h6; rwa [bigZ_abs] at this
  subst e3 e6
  rw [Nat.mul_comm l1 m2]
  rcases Nat.eq_zero_or_pos (m2 * l1) with h0 | h0
  · rw [h0, ratF_none (by omega), ratF_none (by omega)]
  · obtain rfl := sign_eq h6 h0
    rcases Nat.eq_zero_or_pos (m1 * l2) with h1 | h1
    · rw [h1]
      exact ratF_sign _ _ _
    · obtain rfl := sign_eq h3 h1
      rfl

set_option maxRecDepth 100000 in
set_option maxHeartbeats 8000000 in
theorem impl_ratDiv (s t : Bool) (A1 B1 A2 B2 : Option Addr) (n1 c1 k1 d1 n2 c2 k2 d2 : Nat) (m1 l1 m2 l2 : Nat) (w : World) (u1 : Sl w (.slice A1 n1 c1) (toL m1)) (u2 : Sl w (.slice B1 k1 d1) (toL l1)) (v1 : Sl w (.slice A2 n2 c2) (toL m2)) (v2 : Sl w (.slice B2 k2 d2) (toL l2)) (hm1 : m1 < pw 24) (hl1 : l1 < pw 24) (hm2 : m2 < pw 24) (hl2 : l2 < pw 24) (h01 : 0 < l1) (h02 : 0 < l2) :
    Calls Tryz.prog 28 #[.agg #[.bool s, .slice A1 n1 c1, .slice B1 k1 d1], .agg #[.bool t, .slice A2 n2 c2, .slice B2 k2 d2]] w (RetQ (ratF (s != t) (m1 * l2) (l1 * m2)) w) := by
  have U1 := Lib.hid u1
  have U2 := Lib.hid u2
  have V1 := Lib.hid v1
  have V2 := Lib.hid v2
  have M1 := Lib.hid hm1
  have L1 := Lib.hid hl1
  have M2 := Lib.hid hm2
  have L2 := Lib.hid hl2
  have P1 := Lib.hid h01
  have P2 := Lib.hid h02
  clear u1 u2 v1 v2 hm1 hl1 hm2 hl2 h01 h02
  have zz : w.heap.size < w.heap.size + 1 + 1 := by omega
  have nn := Nat.ne_of_lt zz
  have mm := (Nat.ne_of_lt zz).symm
  go_enter Tryz.func28, Tryz.ntmps28
  go_wp2_with fail
  (with_reducible refine (impl_good s A1 B1 n1 c1 k1 d1 l1 _ (U2.out.below (by repeat' (first | (with_reducible exact Below.refl _ _) | (with_reducible refine Below.alloc ?_ ?_ _) | (with_reducible refine Below.setCell ?_ ?_ _) | (with_reducible refine below_drewN ?_ _) | (with_reducible refine Below.drew ?_) | (with_reducible refine below_step (by assumption) ?_ ?_) | omega | (simp; done) | (simp; omega)))) P1.out).mono ?_); rintro e w1 ⟨rfl, b1⟩; obtain ⟨hc1, hf1⟩ := bxcell b1; have q1_0 := fun o => hc1 (w.heap.size) o (by first | omega | (simp; done) | (simp; omega)); have q1_1 := fun o => hc1 (w.heap.size + 1) o (by first | omega | (simp; done) | (simp; omega)); have q1_2 := fun o => hc1 (w.heap.size + 1 + 1) o (by first | omega | (simp; done) | (simp; omega)); have f1_0 := fun o => hf1 (w.heap.size) o (by first | omega | (simp; done) | (simp; omega)); have f1_1 := fun o => hf1 (w.heap.size + 1) o (by first | omega | (simp; done) | (simp; omega)); have f1_2 := fun o => hf1 (w.heap.size + 1 + 1) o (by first | omega | (simp; done) | (simp; omega)); have hz1 := b1.size; (try simp at hz1); have z1_0 : w.heap.size < w1.heap.size := (by omega); have n1_0 := Nat.ne_of_lt z1_0; have m1_0 := (Nat.ne_of_lt z1_0).symm; have z1_1 : w.heap.size + 1 < w1.heap.size := (by omega); have n1_1 := Nat.ne_of_lt z1_1; have m1_1 := (Nat.ne_of_lt z1_1).symm; have z1_2 : w.heap.size + 1 + 1 < w1.heap.size := (by omega); have n1_2 := Nat.ne_of_lt z1_2; have m1_2 := (Nat.ne_of_lt z1_2).symm
  go_wp2_with fail
  (with_reducible refine (impl_good t A2 B2 n2 c2 k2 d2 l2 _ (V2.out.below (by repeat' (first | (with_reducible exact Below.refl _ _) | (with_reducible refine Below.alloc ?_ ?_ _) | (with_reducible refine Below.setCell ?_ ?_ _) | (with_reducible refine below_drewN ?_ _) | (with_reducible refine Below.drew ?_) | (with_reducible refine below_step (by assumption) ?_ ?_) | omega | (simp; done) | (simp; omega)))) P2.out).mono ?_); rintro e w2 ⟨rfl, b2⟩; obtain ⟨hc2, hf2⟩ := bxcell b2; have q2_0 := fun o => hc2 (w.heap.size) o (by first | omega | (simp; done) | (simp; omega)); have q2_1 := fun o => hc2 (w.heap.size + 1) o (by first | omega | (simp; done) | (simp; omega)); have q2_2 := fun o => hc2 (w.heap.size + 1 + 1) o (by first | omega | (simp; done) | (simp; omega)); have f2_0 := fun o => hf2 (w.heap.size) o (by first | omega | (simp; done) | (simp; omega)); have f2_1 := fun o => hf2 (w.heap.size + 1) o (by first | omega | (simp; done) | (simp; omega)); have f2_2 := fun o => hf2 (w.heap.size + 1 + 1) o (by first | omega | (simp; done) | (simp; omega)); have hz2 := b2.size; (try simp at hz2); have z2_0 : w.heap.size < w2.heap.size := (by omega); have n2_0 := Nat.ne_of_lt z2_0; have m2_0 := (Nat.ne_of_lt z2_0).symm; have z2_1 : w.heap.size + 1 < w2.heap.size := (by omega); have n2_1 := Nat.ne_of_lt z2_1; have m2_1 := (Nat.ne_of_lt z2_1).symm; have z2_2 : w.heap.size + 1 + 1 < w2.heap.size := (by omega); have n2_2 := Nat.ne_of_lt z2_2; have m2_2 := (Nat.ne_of_lt z2_2).symm
  go_wp2_with fail
  have ka0 : w2.cell? ⟨w.heap.size, 0, none⟩ = some (.bool s) := by simp [go_sem, *]
  have ka1 : w2.cell? ⟨w.heap.size, 1, none⟩ = some (.slice A1 n1 c1) := by simp [go_sem, *]
  have ka2 : w2.cell? ⟨w.heap.size, 2, none⟩ = some (.slice B1 k1 d1) := by simp [go_sem, *]
  have kb0 : w2.cell? ⟨w.heap.size + 1, 0, none⟩ = some (.bool t) := by simp [go_sem, *]
  have kb1 : w2.cell? ⟨w.heap.size + 1, 1, none⟩ = some (.slice A2 n2 c2) := by simp [go_sem, *]
  have kb2 : w2.cell? ⟨w.heap.size + 1, 2, none⟩ = some (.slice B2 k2 d2) := by simp [go_sem, *]
  have kr0 : w2.cell? ⟨w.heap.size + 1 + 1, 0, none⟩ = some (.bool false) := by simp [go_sem, *]
  have kf0 : w2.frozen? ⟨w.heap.size + 1 + 1, 0, none⟩ = false := by simp [go_sem, *]
  have kr1 : w2.cell? ⟨w.heap.size + 1 + 1, 1, none⟩ = some (.slice none 0 0) := by simp [go_sem, *]
  have kf1 : w2.frozen? ⟨w.heap.size + 1 + 1, 1, none⟩ = false := by simp [go_sem, *]
  have kr2 : w2.cell? ⟨w.heap.size + 1 + 1, 2, none⟩ = some (.slice none 0 0) := by simp [go_sem, *]
  have kf2 : w2.frozen? ⟨w.heap.size + 1 + 1, 2, none⟩ = false := by simp [go_sem, *]
  clear hc1 hf1 q1_0 f1_0 q1_1 f1_1 q1_2 f1_2 hc2 hf2 q2_0 f2_0 q2_1 f2_1 q2_2 f2_2
  go_region_held3 (fun w' => w'.cell? ⟨w.heap.size, 0, none⟩ = some (.bool s) ∧ w'.cell? ⟨w.heap.size, 1, none⟩ = some (.slice A1 n1 c1) ∧ w'.cell? ⟨w.heap.size, 2, none⟩ = some (.slice B1 k1 d1) ∧ w'.cell? ⟨w.heap.size + 1, 0, none⟩ = some (.bool t) ∧ w'.cell? ⟨w.heap.size + 1, 1, none⟩ = some (.slice A2 n2 c2) ∧ w'.cell? ⟨w.heap.size + 1, 2, none⟩ = some (.slice B2 k2 d2)) (go_keep)
    (first
      | (go_at_call 45; (with_reducible refine (impl_denOf t A2 B2 n2 c2 k2 d2 _).mono ?_); rintro e w3 ⟨rfl, b3⟩; obtain ⟨hc3, hf3⟩ := bxcell b3; have q3_0 := fun o => hc3 (w.heap.size) o (by first | omega | (simp; done) | (simp; omega)); have q3_1 := fun o => hc3 (w.heap.size + 1) o (by first | omega | (simp; done) | (simp; omega)); have q3_2 := fun o => hc3 (w.heap.size + 1 + 1) o (by first | omega | (simp; done) | (simp; omega)); have f3_0 := fun o => hf3 (w.heap.size) o (by first | omega | (simp; done) | (simp; omega)); have f3_1 := fun o => hf3 (w.heap.size + 1) o (by first | omega | (simp; done) | (simp; omega)); have f3_2 := fun o => hf3 (w.heap.size + 1 + 1) o (by first | omega | (simp; done) | (simp; omega)); have hz3 := b3.size; (try simp at hz3); have z3_0 : w.heap.size < w3.heap.size := (by omega); have n3_0 := Nat.ne_of_lt z3_0; have m3_0 := (Nat.ne_of_lt z3_0).symm; have z3_1 : w.heap.size + 1 < w3.heap.size := (by omega); have n3_1 := Nat.ne_of_lt z3_1; have m3_1 := (Nat.ne_of_lt z3_1).symm; have z3_2 : w.heap.size + 1 + 1 < w3.heap.size := (by omega); have n3_2 := Nat.ne_of_lt z3_2; have m3_2 := (Nat.ne_of_lt z3_2).symm)
      | (go_at_call 44; (with_reducible refine (impl_mulG s false A1 B2 n1 c1 k2 d2 m1 l2 _ (U1.out.below (by repeat' (first | (with_reducible exact Below.refl _ _) | (with_reducible refine Below.alloc ?_ ?_ _) | (with_reducible refine Below.setCell ?_ ?_ _) | (with_reducible refine below_drewN ?_ _) | (with_reducible refine Below.drew ?_) | (with_reducible refine below_step (by assumption) ?_ ?_) | omega | (simp; done) | (simp; omega)))) (V2.out.below (by repeat' (first | (with_reducible exact Below.refl _ _) | (with_reducible refine Below.alloc ?_ ?_ _) | (with_reducible refine Below.setCell ?_ ?_ _) | (with_reducible refine below_drewN ?_ _) | (with_reducible refine Below.drew ?_) | (with_reducible refine below_step (by assumption) ?_ ?_) | omega | (simp; done) | (simp; omega)))) M1.out L2.out).mono ?_); rintro e w4 ⟨u4, q4, A4, n4, c4, rfl, hy4, hp4, hn4, o4, b4⟩; obtain ⟨hc4, hf4⟩ := bxcell b4; have q4_0 := fun o => hc4 (w.heap.size) o (by first | omega | (simp; done) | (simp; omega)); have q4_1 := fun o => hc4 (w.heap.size + 1) o (by first | omega | (simp; done) | (simp; omega)); have q4_2 := fun o => hc4 (w.heap.size + 1 + 1) o (by first | omega | (simp; done) | (simp; omega)); have f4_0 := fun o => hf4 (w.heap.size) o (by first | omega | (simp; done) | (simp; omega)); have f4_1 := fun o => hf4 (w.heap.size + 1) o (by first | omega | (simp; done) | (simp; omega)); have f4_2 := fun o => hf4 (w.heap.size + 1 + 1) o (by first | omega | (simp; done) | (simp; omega)); have hz4 := b4.size; (try simp at hz4); have z4_0 : w.heap.size < w4.heap.size := (by omega); have n4_0 := Nat.ne_of_lt z4_0; have m4_0 := (Nat.ne_of_lt z4_0).symm; have z4_1 : w.heap.size + 1 < w4.heap.size := (by omega); have n4_1 := Nat.ne_of_lt z4_1; have m4_1 := (Nat.ne_of_lt z4_1).symm; have z4_2 : w.heap.size + 1 + 1 < w4.heap.size := (by omega); have n4_2 := Nat.ne_of_lt z4_2; have m4_2 := (Nat.ne_of_lt z4_2).symm; subst hn4; have Z4 := Lib.hid hy4; have HP4 := Lib.hid hp4; have O4 := Lib.hid o4; clear hy4 hp4 o4)
      | (go_at_call 45; (with_reducible refine (impl_denOf s A1 B1 n1 c1 k1 d1 _).mono ?_); rintro e w5 ⟨rfl, b5⟩; obtain ⟨hc5, hf5⟩ := bxcell b5; have q5_0 := fun o => hc5 (w.heap.size) o (by first | omega | (simp; done) | (simp; omega)); have q5_1 := fun o => hc5 (w.heap.size + 1) o (by first | omega | (simp; done) | (simp; omega)); have q5_2 := fun o => hc5 (w.heap.size + 1 + 1) o (by first | omega | (simp; done) | (simp; omega)); have f5_0 := fun o => hf5 (w.heap.size) o (by first | omega | (simp; done) | (simp; omega)); have f5_1 := fun o => hf5 (w.heap.size + 1) o (by first | omega | (simp; done) | (simp; omega)); have f5_2 := fun o => hf5 (w.heap.size + 1 + 1) o (by first | omega | (simp; done) | (simp; omega)); have hz5 := b5.size; (try simp at hz5); have z5_0 : w.heap.size < w5.heap.size := (by omega); have n5_0 := Nat.ne_of_lt z5_0; have m5_0 := (Nat.ne_of_lt z5_0).symm; have z5_1 : w.heap.size + 1 < w5.heap.size := (by omega); have n5_1 := Nat.ne_of_lt z5_1; have m5_1 := (Nat.ne_of_lt z5_1).symm; have z5_2 : w.heap.size + 1 + 1 < w5.heap.size := (by omega); have n5_2 := Nat.ne_of_lt z5_2; have m5_2 := (Nat.ne_of_lt z5_2).symm)
      | (go_at_call 44; (with_reducible refine (impl_mulG t false A2 B1 n2 c2 k1 d1 m2 l1 _ (V1.out.below (by repeat' (first | (with_reducible exact Below.refl _ _) | (with_reducible refine Below.alloc ?_ ?_ _) | (with_reducible refine Below.setCell ?_ ?_ _) | (with_reducible refine below_drewN ?_ _) | (with_reducible refine Below.drew ?_) | (with_reducible refine below_step (by assumption) ?_ ?_) | omega | (simp; done) | (simp; omega)))) (U2.out.below (by repeat' (first | (with_reducible exact Below.refl _ _) | (with_reducible refine Below.alloc ?_ ?_ _) | (with_reducible refine Below.setCell ?_ ?_ _) | (with_reducible refine below_drewN ?_ _) | (with_reducible refine Below.drew ?_) | (with_reducible refine below_step (by assumption) ?_ ?_) | omega | (simp; done) | (simp; omega)))) M2.out L1.out).mono ?_); rintro e w6 ⟨u6, q6, A6, n6, c6, rfl, hy6, hp6, hn6, o6, b6⟩; obtain ⟨hc6, hf6⟩ := bxcell b6; have q6_0 := fun o => hc6 (w.heap.size) o (by first | omega | (simp; done) | (simp; omega)); have q6_1 := fun o => hc6 (w.heap.size + 1) o (by first | omega | (simp; done) | (simp; omega)); have q6_2 := fun o => hc6 (w.heap.size + 1 + 1) o (by first | omega | (simp; done) | (simp; omega)); have f6_0 := fun o => hf6 (w.heap.size) o (by first | omega | (simp; done) | (simp; omega)); have f6_1 := fun o => hf6 (w.heap.size + 1) o (by first | omega | (simp; done) | (simp; omega)); have f6_2 := fun o => hf6 (w.heap.size + 1 + 1) o (by first | omega | (simp; done) | (simp; omega)); have hz6 := b6.size; (try simp at hz6); have z6_0 : w.heap.size < w6.heap.size := (by omega); have n6_0 := Nat.ne_of_lt z6_0; have m6_0 := (Nat.ne_of_lt z6_0).symm; have z6_1 : w.heap.size + 1 < w6.heap.size := (by omega); have n6_1 := Nat.ne_of_lt z6_1; have m6_1 := (Nat.ne_of_lt z6_1).symm; have z6_2 : w.heap.size + 1 + 1 < w6.heap.size := (by omega); have n6_2 := Nat.ne_of_lt z6_2; have m6_2 := (Nat.ne_of_lt z6_2).symm; subst hn6; have Z6 := Lib.hid hy6; have HP6 := Lib.hid hp6; have O6 := Lib.hid o6; clear hy6 hp6 o6)
      | (go_at_call 43; (with_reducible refine (impl_makeG u4 u6 A4 A6 _ c4 _ c6 q4 q6 _ (OwnR.here O4.out (by repeat' (first | (with_reducible exact Below.refl _ _) | (with_reducible refine Below.alloc ?_ ?_ _) | (with_reducible refine Below.setCell ?_ ?_ _) | (with_reducible refine below_drewN ?_ _) | (with_reducible refine Below.drew ?_) | (with_reducible refine below_step (by assumption) ?_ ?_) | omega | (simp; done) | (simp; omega)))).sl (OwnR.here O6.out (by repeat' (first | (with_reducible exact Below.refl _ _) | (with_reducible refine Below.alloc ?_ ?_ _) | (with_reducible refine Below.setCell ?_ ?_ _) | (with_reducible refine below_drewN ?_ _) | (with_reducible refine Below.drew ?_) | (with_reducible refine below_step (by assumption) ?_ ?_) | omega | (simp; done) | (simp; omega)))).sl (lt150 (ltq Z4.out M1.out L2.out) (by omega)) (lt150 (ltq Z6.out M2.out L1.out) (by omega))).mono ?_); rintro e w7 ⟨u7, A7, n7, c7, B7, k7, d7, rfl, hu7, o7, b7⟩; obtain ⟨hc7, hf7⟩ := bxcell b7; have q7_0 := fun o => hc7 (w.heap.size) o (by first | omega | (simp; done) | (simp; omega)); have q7_1 := fun o => hc7 (w.heap.size + 1) o (by first | omega | (simp; done) | (simp; omega)); have q7_2 := fun o => hc7 (w.heap.size + 1 + 1) o (by first | omega | (simp; done) | (simp; omega)); have f7_0 := fun o => hf7 (w.heap.size) o (by first | omega | (simp; done) | (simp; omega)); have f7_1 := fun o => hf7 (w.heap.size + 1) o (by first | omega | (simp; done) | (simp; omega)); have f7_2 := fun o => hf7 (w.heap.size + 1 + 1) o (by first | omega | (simp; done) | (simp; omega)); have hz7 := b7.size; (try simp at hz7); have z7_0 : w.heap.size < w7.heap.size := (by omega); have n7_0 := Nat.ne_of_lt z7_0; have m7_0 := (Nat.ne_of_lt z7_0).symm; have z7_1 : w.heap.size + 1 < w7.heap.size := (by omega); have n7_1 := Nat.ne_of_lt z7_1; have m7_1 := (Nat.ne_of_lt z7_1).symm; have z7_2 : w.heap.size + 1 + 1 < w7.heap.size := (by omega); have n7_2 := Nat.ne_of_lt z7_2; have m7_2 := (Nat.ne_of_lt z7_2).symm; have HU7 := Lib.hid hu7; have O7 := Lib.hid o7; clear hu7 o7))
  all_goals
    go_wp2
    exact bodyPost_ret (v := .agg #[.bool u7, .slice A7 n7 c7, .slice B7 k7 d7]) (by simp [results, Tryz.results28, go_sem, *]) rfl (GiveQ.to (div_lem Z4.out Z6.out) HU7.out (PairR.wide (lo := w6.heap.size) (hi := w7.heap.size) ((by have hfar := O7.out; repeat' (first | (with_reducible exact hfar) | (with_reducible refine PairR.far ?_ _ _ ?_) | (with_reducible refine PairR.allocd ?_ _ ?_) | (left; first | omega | (simp; done) | (simp; omega)) | (right; first | omega | (simp; done) | (simp; omega)) | omega | (simp; done) | (simp; omega) | (exact hfar)))) (by first | omega | (simp; done) | (simp; omega)) (by first | omega | (simp; done) | (simp; omega))) (by repeat' (first | (with_reducible exact Below.refl _ _) | (with_reducible refine Below.alloc ?_ ?_ _) | (with_reducible refine Below.setCell ?_ ?_ _) | (with_reducible refine below_drewN ?_ _) | (with_reducible refine Below.drew ?_) | (with_reducible refine below_step (by assumption) ?_ ?_) | omega | (simp; done) | (simp; omega))))

set_option maxRecDepth 100000 in
set_option maxHeartbeats 8000000 in
theorem impl_ratCmp (s t : Bool) (A1 B1 A2 B2 : Option Addr) (n1 c1 k1 d1 n2 c2 k2 d2 : Nat) (m1 l1 m2 l2 : Nat) (w : World) (u1 : Sl w (.slice A1 n1 c1) (toL m1)) (u2 : Sl w (.slice B1 k1 d1) (toL l1)) (v1 : Sl w (.slice A2 n2 c2) (toL m2)) (v2 : Sl w (.slice B2 k2 d2) (toL l2)) (hm1 : m1 < pw 24) (hl1 : l1 < pw 24) (hm2 : m2 < pw 24) (hl2 : l2 < pw 24) (h01 : 0 < l1) (h02 : 0 < l2) :
    Calls Tryz.prog 26 #[.agg #[.bool s, .slice A1 n1 c1, .slice B1 k1 d1], .agg #[.bool t, .slice A2 n2 c2, .slice B2 k2 d2]] w fun e w' => e = .returned (.int .i64 (cmpZ (bigZ s m1 * bigZ false l2) (bigZ t m2 * bigZ false l1))) ∧ Below w.heap.size w w' := by
  have U1 := Lib.hid u1
  have U2 := Lib.hid u2
  have V1 := Lib.hid v1
  have V2 := Lib.hid v2
  have M1 := Lib.hid hm1
  have L1 := Lib.hid hl1
  have M2 := Lib.hid hm2
  have L2 := Lib.hid hl2
  have P1 := Lib.hid h01
  have P2 := Lib.hid h02
  clear u1 u2 v1 v2 hm1 hl1 hm2 hl2 h01 h02
  have zz : w.heap.size < w.heap.size + 1 + 1 := by omega
  have nn := Nat.ne_of_lt zz
  have mm := (Nat.ne_of_lt zz).symm
  go_enter Tryz.func26, Tryz.ntmps26
  go_wp2_with fail
  (with_reducible refine (impl_good s A1 B1 n1 c1 k1 d1 l1 _ (U2.out.below (by repeat' (first | (with_reducible exact Below.refl _ _) | (with_reducible refine Below.alloc ?_ ?_ _) | (with_reducible refine Below.setCell ?_ ?_ _) | (with_reducible refine below_drewN ?_ _) | (with_reducible refine Below.drew ?_) | (with_reducible refine below_step (by assumption) ?_ ?_) | omega | (simp; done) | (simp; omega)))) P1.out).mono ?_); rintro e w1 ⟨rfl, b1⟩; obtain ⟨hc1, hf1⟩ := bxcell b1; have q1_0 := fun o => hc1 (w.heap.size) o (by first | omega | (simp; done) | (simp; omega)); have q1_1 := fun o => hc1 (w.heap.size + 1) o (by first | omega | (simp; done) | (simp; omega)); have f1_0 := fun o => hf1 (w.heap.size) o (by first | omega | (simp; done) | (simp; omega)); have f1_1 := fun o => hf1 (w.heap.size + 1) o (by first | omega | (simp; done) | (simp; omega)); have hz1 := b1.size; (try simp at hz1); have z1_0 : w.heap.size < w1.heap.size := (by omega); have n1_0 := Nat.ne_of_lt z1_0; have m1_0 := (Nat.ne_of_lt z1_0).symm; have z1_1 : w.heap.size + 1 < w1.heap.size := (by omega); have n1_1 := Nat.ne_of_lt z1_1; have m1_1 := (Nat.ne_of_lt z1_1).symm
  go_wp2_with fail
  (with_reducible refine (impl_good t A2 B2 n2 c2 k2 d2 l2 _ (V2.out.below (by repeat' (first | (with_reducible exact Below.refl _ _) | (with_reducible refine Below.alloc ?_ ?_ _) | (with_reducible refine Below.setCell ?_ ?_ _) | (with_reducible refine below_drewN ?_ _) | (with_reducible refine Below.drew ?_) | (with_reducible refine below_step (by assumption) ?_ ?_) | omega | (simp; done) | (simp; omega)))) P2.out).mono ?_); rintro e w2 ⟨rfl, b2⟩; obtain ⟨hc2, hf2⟩ := bxcell b2; have q2_0 := fun o => hc2 (w.heap.size) o (by first | omega | (simp; done) | (simp; omega)); have q2_1 := fun o => hc2 (w.heap.size + 1) o (by first | omega | (simp; done) | (simp; omega)); have f2_0 := fun o => hf2 (w.heap.size) o (by first | omega | (simp; done) | (simp; omega)); have f2_1 := fun o => hf2 (w.heap.size + 1) o (by first | omega | (simp; done) | (simp; omega)); have hz2 := b2.size; (try simp at hz2); have z2_0 : w.heap.size < w2.heap.size := (by omega); have n2_0 := Nat.ne_of_lt z2_0; have m2_0 := (Nat.ne_of_lt z2_0).symm; have z2_1 : w.heap.size + 1 < w2.heap.size := (by omega); have n2_1 := Nat.ne_of_lt z2_1; have m2_1 := (Nat.ne_of_lt z2_1).symm
  go_wp2_with fail
  have ka0 : w2.cell? ⟨w.heap.size, 0, none⟩ = some (.bool s) := by simp [go_sem, *]
  have ka1 : w2.cell? ⟨w.heap.size, 1, none⟩ = some (.slice A1 n1 c1) := by simp [go_sem, *]
  have ka2 : w2.cell? ⟨w.heap.size, 2, none⟩ = some (.slice B1 k1 d1) := by simp [go_sem, *]
  have kb0 : w2.cell? ⟨w.heap.size + 1, 0, none⟩ = some (.bool t) := by simp [go_sem, *]
  have kb1 : w2.cell? ⟨w.heap.size + 1, 1, none⟩ = some (.slice A2 n2 c2) := by simp [go_sem, *]
  have kb2 : w2.cell? ⟨w.heap.size + 1, 2, none⟩ = some (.slice B2 k2 d2) := by simp [go_sem, *]
  clear hc1 hf1 q1_0 f1_0 q1_1 f1_1 hc2 hf2 q2_0 f2_0 q2_1 f2_1
  go_region_held3 (fun w' => w'.cell? ⟨w.heap.size, 0, none⟩ = some (.bool s) ∧ w'.cell? ⟨w.heap.size, 1, none⟩ = some (.slice A1 n1 c1) ∧ w'.cell? ⟨w.heap.size, 2, none⟩ = some (.slice B1 k1 d1) ∧ w'.cell? ⟨w.heap.size + 1, 0, none⟩ = some (.bool t) ∧ w'.cell? ⟨w.heap.size + 1, 1, none⟩ = some (.slice A2 n2 c2) ∧ w'.cell? ⟨w.heap.size + 1, 2, none⟩ = some (.slice B2 k2 d2)) (go_keep)
    (first
      | (go_at_call 45; (with_reducible refine (impl_denOf t A2 B2 n2 c2 k2 d2 _).mono ?_); rintro e w3 ⟨rfl, b3⟩; obtain ⟨hc3, hf3⟩ := bxcell b3; have q3_0 := fun o => hc3 (w.heap.size) o (by first | omega | (simp; done) | (simp; omega)); have q3_1 := fun o => hc3 (w.heap.size + 1) o (by first | omega | (simp; done) | (simp; omega)); have f3_0 := fun o => hf3 (w.heap.size) o (by first | omega | (simp; done) | (simp; omega)); have f3_1 := fun o => hf3 (w.heap.size + 1) o (by first | omega | (simp; done) | (simp; omega)); have hz3 := b3.size; (try simp at hz3); have z3_0 : w.heap.size < w3.heap.size := (by omega); have n3_0 := Nat.ne_of_lt z3_0; have m3_0 := (Nat.ne_of_lt z3_0).symm; have z3_1 : w.heap.size + 1 < w3.heap.size := (by omega); have n3_1 := Nat.ne_of_lt z3_1; have m3_1 := (Nat.ne_of_lt z3_1).symm)
      | (go_at_call 44; (with_reducible refine (impl_mulG s false A1 B2 n1 c1 k2 d2 m1 l2 _ (U1.out.below (by repeat' (first | (with_reducible exact Below.refl _ _) | (with_reducible refine Below.alloc ?_ ?_ _) | (with_reducible refine Below.setCell ?_ ?_ _) | (with_reducible refine below_drewN ?_ _) | (with_reducible refine Below.drew ?_) | (with_reducible refine below_step (by assumption) ?_ ?_) | omega | (simp; done) | (simp; omega)))) (V2.out.below (by repeat' (first | (with_reducible exact Below.refl _ _) | (with_reducible refine Below.alloc ?_ ?_ _) | (with_reducible refine Below.setCell ?_ ?_ _) | (with_reducible refine below_drewN ?_ _) | (with_reducible refine Below.drew ?_) | (with_reducible refine below_step (by assumption) ?_ ?_) | omega | (simp; done) | (simp; omega)))) M1.out L2.out).mono ?_); rintro e w4 ⟨u4, q4, A4, n4, c4, rfl, hy4, hp4, hn4, o4, b4⟩; obtain ⟨hc4, hf4⟩ := bxcell b4; have q4_0 := fun o => hc4 (w.heap.size) o (by first | omega | (simp; done) | (simp; omega)); have q4_1 := fun o => hc4 (w.heap.size + 1) o (by first | omega | (simp; done) | (simp; omega)); have f4_0 := fun o => hf4 (w.heap.size) o (by first | omega | (simp; done) | (simp; omega)); have f4_1 := fun o => hf4 (w.heap.size + 1) o (by first | omega | (simp; done) | (simp; omega)); have hz4 := b4.size; (try simp at hz4); have z4_0 : w.heap.size < w4.heap.size := (by omega); have n4_0 := Nat.ne_of_lt z4_0; have m4_0 := (Nat.ne_of_lt z4_0).symm; have z4_1 : w.heap.size + 1 < w4.heap.size := (by omega); have n4_1 := Nat.ne_of_lt z4_1; have m4_1 := (Nat.ne_of_lt z4_1).symm; subst hn4; have Z4 := Lib.hid hy4; have HP4 := Lib.hid hp4; have O4 := Lib.hid o4; clear hy4 hp4 o4)
      | (go_at_call 45; (with_reducible refine (impl_denOf s A1 B1 n1 c1 k1 d1 _).mono ?_); rintro e w5 ⟨rfl, b5⟩; obtain ⟨hc5, hf5⟩ := bxcell b5; have q5_0 := fun o => hc5 (w.heap.size) o (by first | omega | (simp; done) | (simp; omega)); have q5_1 := fun o => hc5 (w.heap.size + 1) o (by first | omega | (simp; done) | (simp; omega)); have f5_0 := fun o => hf5 (w.heap.size) o (by first | omega | (simp; done) | (simp; omega)); have f5_1 := fun o => hf5 (w.heap.size + 1) o (by first | omega | (simp; done) | (simp; omega)); have hz5 := b5.size; (try simp at hz5); have z5_0 : w.heap.size < w5.heap.size := (by omega); have n5_0 := Nat.ne_of_lt z5_0; have m5_0 := (Nat.ne_of_lt z5_0).symm; have z5_1 : w.heap.size + 1 < w5.heap.size := (by omega); have n5_1 := Nat.ne_of_lt z5_1; have m5_1 := (Nat.ne_of_lt z5_1).symm)
      | (go_at_call 44; (with_reducible refine (impl_mulG t false A2 B1 n2 c2 k1 d1 m2 l1 _ (V1.out.below (by repeat' (first | (with_reducible exact Below.refl _ _) | (with_reducible refine Below.alloc ?_ ?_ _) | (with_reducible refine Below.setCell ?_ ?_ _) | (with_reducible refine below_drewN ?_ _) | (with_reducible refine Below.drew ?_) | (with_reducible refine below_step (by assumption) ?_ ?_) | omega | (simp; done) | (simp; omega)))) (U2.out.below (by repeat' (first | (with_reducible exact Below.refl _ _) | (with_reducible refine Below.alloc ?_ ?_ _) | (with_reducible refine Below.setCell ?_ ?_ _) | (with_reducible refine below_drewN ?_ _) | (with_reducible refine Below.drew ?_) | (with_reducible refine below_step (by assumption) ?_ ?_) | omega | (simp; done) | (simp; omega)))) M2.out L1.out).mono ?_); rintro e w6 ⟨u6, q6, A6, n6, c6, rfl, hy6, hp6, hn6, o6, b6⟩; obtain ⟨hc6, hf6⟩ := bxcell b6; have q6_0 := fun o => hc6 (w.heap.size) o (by first | omega | (simp; done) | (simp; omega)); have q6_1 := fun o => hc6 (w.heap.size + 1) o (by first | omega | (simp; done) | (simp; omega)); have f6_0 := fun o => hf6 (w.heap.size) o (by first | omega | (simp; done) | (simp; omega)); have f6_1 := fun o => hf6 (w.heap.size + 1) o (by first | omega | (simp; done) | (simp; omega)); have hz6 := b6.size; (try simp at hz6); have z6_0 : w.heap.size < w6.heap.size := (by omega); have n6_0 := Nat.ne_of_lt z6_0; have m6_0 := (Nat.ne_of_lt z6_0).symm; have z6_1 : w.heap.size + 1 < w6.heap.size := (by omega); have n6_1 := Nat.ne_of_lt z6_1; have m6_1 := (Nat.ne_of_lt z6_1).symm; subst hn6; have Z6 := Lib.hid hy6; have HP6 := Lib.hid hp6; have O6 := Lib.hid o6; clear hy6 hp6 o6)
      | (go_at_call 48; (with_reducible refine (impl_bigCmp u4 u6 A4 A6 _ c4 _ c6 q4 q6 _ (OwnR.here O4.out (by repeat' (first | (with_reducible exact Below.refl _ _) | (with_reducible refine Below.alloc ?_ ?_ _) | (with_reducible refine Below.setCell ?_ ?_ _) | (with_reducible refine below_drewN ?_ _) | (with_reducible refine Below.drew ?_) | (with_reducible refine below_step (by assumption) ?_ ?_) | omega | (simp; done) | (simp; omega)))).sl (OwnR.here O6.out (by repeat' (first | (with_reducible exact Below.refl _ _) | (with_reducible refine Below.alloc ?_ ?_ _) | (with_reducible refine Below.setCell ?_ ?_ _) | (with_reducible refine below_drewN ?_ _) | (with_reducible refine Below.drew ?_) | (with_reducible refine below_step (by assumption) ?_ ?_) | omega | (simp; done) | (simp; omega)))).sl HP4.out HP6.out).mono ?_); rintro e w7 ⟨rfl, b7⟩; obtain ⟨hc7, hf7⟩ := bxcell b7; have q7_0 := fun o => hc7 (w.heap.size) o (by first | omega | (simp; done) | (simp; omega)); have q7_1 := fun o => hc7 (w.heap.size + 1) o (by first | omega | (simp; done) | (simp; omega)); have f7_0 := fun o => hf7 (w.heap.size) o (by first | omega | (simp; done) | (simp; omega)); have f7_1 := fun o => hf7 (w.heap.size + 1) o (by first | omega | (simp; done) | (simp; omega)); have hz7 := b7.size; (try simp at hz7); have z7_0 : w.heap.size < w7.heap.size := (by omega); have n7_0 := Nat.ne_of_lt z7_0; have m7_0 := (Nat.ne_of_lt z7_0).symm; have z7_1 : w.heap.size + 1 < w7.heap.size := (by omega); have n7_1 := Nat.ne_of_lt z7_1; have m7_1 := (Nat.ne_of_lt z7_1).symm))
  all_goals
    go_wp2
    go_ret
    exact ⟨by rw [← Z4.out, ← Z6.out]; rfl, (by repeat' (first | (with_reducible exact Below.refl _ _) | (with_reducible refine Below.alloc ?_ ?_ _) | (with_reducible refine Below.setCell ?_ ?_ _) | (with_reducible refine below_drewN ?_ _) | (with_reducible refine Below.drew ?_) | (with_reducible refine below_step (by assumption) ?_ ?_) | omega | (simp; done) | (simp; omega)))⟩

theorem spec_lowG (s : Bool) (u v : Value) (m l : Nat) (w : World) (hu : Sl w u (toL m)) (hv : Sl w v (toL l)) (hm : m < pw 150) (hl : l < pw 150) :
    Calls Tryz.prog 62 #[.bool s, u, v] w (GiveQ (ratF s m l) w) := (spec_low s u v m l w hu hv hm hl).mono fun _ _ h => h.give
theorem spec_makeG (s : Bool) (v : Value) (m : Nat) (w : World) (h : Sl w v (toL m)) (hm : m < pw 60) :
    Calls Tryz.prog 63 #[.bool s, v] w (GiveZ (bigZ s m) w) := (spec_l03Make s v m w h).mono fun _ _ h => by
  have := MadeZ.give h (Nat.le_refl _)
  rwa [limZ_small hm] at this
theorem lt200k {m : Nat} (h : m < pw 24) : m < pw 200 := lt200' h (by omega)
theorem lt150m {m l : Nat} (hm : m < pw 24) (hl : l < pw 24) : m * l < pw 150 := lt150 (mul_lt hm hl) (by omega)
theorem lt60m {m l : Nat} (hm : m < pw 24) (hl : l < pw 24) : m * l < pw 60 := Nat.lt_of_lt_of_le (mul_lt hm hl) (pw_le (by omega))


end Go.Proofs.YticekjagmcphbaaGreatDoor
