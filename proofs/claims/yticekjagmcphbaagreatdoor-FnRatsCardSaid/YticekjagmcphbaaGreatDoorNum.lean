/-
  Numbers in base one thousand million, as lists of limbs: plain law, no program in sight. Written by an AI agent.
-/
import Derived.Test.YticekjagmcphbaaGreatDoorNatOk
namespace Go.Proofs.YticekjagmcphbaaGreatDoor
open Go.RowKit

/-- The value of a list of limbs. -/
def val : List Int → Int
  | [] => 0
  | d :: l => d + 1000000000 * val l
def Limbs (xs : List Int) : Prop := ∀ d ∈ xs, 0 ≤ d ∧ d < 1000000000
/-- The limbs of a number, the least first, no zero limb at the end. -/
def toL (n : Nat) : List Int := if h : n = 0 then [] else ((n % 1000000000 : Nat) : Int) :: toL (n / 1000000000)
termination_by n
decreasing_by omega
/-- The place value. -/
def pw (k : Nat) : Nat := 1000000000 ^ k

theorem pw_zero : pw 0 = 1 := rfl
theorem pw_succ (k : Nat) : pw (k + 1) = 1000000000 * pw k := by unfold pw; rw [Nat.pow_succ, Nat.mul_comm]
theorem pw_pos (k : Nat) : 0 < pw k := Nat.pow_pos (by omega)
theorem pw_le {i j : Nat} (h : i ≤ j) : pw i ≤ pw j := Nat.pow_le_pow_right (by omega) h
theorem pw_add (i j : Nat) : pw (i + j) = pw i * pw j := Nat.pow_add _ _ _

theorem toL_zero : toL 0 = [] := by unfold toL; simp
theorem toL_pos {n : Nat} (h : 0 < n) : toL n = ((n % 1000000000 : Nat) : Int) :: toL (n / 1000000000) := by
  rw [toL]
  rw [dif_neg (by omega)]
theorem toL_nil {n : Nat} : toL n = [] ↔ n = 0 := by
  constructor
  · intro h
    rcases Nat.eq_zero_or_pos n with h0 | h0
    · exact h0
    · rw [toL_pos h0] at h
      cases h
  · rintro rfl
    exact toL_zero
theorem val_toL (n : Nat) : val (toL n) = (n : Int) := by
  induction n using Nat.strongRecOn with
  | _ n ih =>
    rcases Nat.eq_zero_or_pos n with h0 | h0
    · subst h0
      rw [toL_zero]
      rfl
    · rw [toL_pos h0, val, ih (n / 1000000000) (by omega)]
      omega
theorem Limbs.nil : Limbs [] := fun d hd => by cases hd
theorem Limbs.cons {d : Int} {l : List Int} (h0 : 0 ≤ d) (h1 : d < 1000000000) (h : Limbs l) : Limbs (d :: l) := by
  intro e he
  rcases List.mem_cons.1 he with rfl | he
  · exact ⟨h0, h1⟩
  · exact h e he
theorem Limbs.head {d : Int} {l : List Int} (h : Limbs (d :: l)) : 0 ≤ d ∧ d < 1000000000 := h d List.mem_cons_self
theorem Limbs.tail {d : Int} {l : List Int} (h : Limbs (d :: l)) : Limbs l := fun e he => h e (List.mem_cons_of_mem _ he)
theorem Limbs.append {a b : List Int} (ha : Limbs a) (hb : Limbs b) : Limbs (a ++ b) := by
  intro e he
  rcases List.mem_append.1 he with he | he
  · exact ha e he
  · exact hb e he
theorem Limbs.get {xs : List Int} {k : Nat} {d : Int} (h : Limbs xs) (hd : xs[k]? = some d) : 0 ≤ d ∧ d < 1000000000 := h d (List.mem_of_getElem? hd)
theorem Limbs.take {xs : List Int} (h : Limbs xs) (k : Nat) : Limbs (xs.take k) := fun d hd => h d (List.mem_of_mem_take hd)
theorem Limbs.drop {xs : List Int} (h : Limbs xs) (k : Nat) : Limbs (xs.drop k) := fun d hd => h d (List.mem_of_mem_drop hd)
theorem Limbs.set {xs : List Int} (h : Limbs xs) {k : Nat} {d : Int} (h0 : 0 ≤ d) (h1 : d < 1000000000) : Limbs (xs.set k d) := by
  intro e he
  rcases List.mem_or_eq_of_mem_set he with he | rfl
  · exact h e he
  · exact ⟨h0, h1⟩
theorem Limbs.replicate (n : Nat) : Limbs (List.replicate n 0) := fun d hd => by
  rw [List.mem_replicate] at hd
  omega
theorem limbs_toL (n : Nat) : Limbs (toL n) := by
  induction n using Nat.strongRecOn with
  | _ n ih =>
    rcases Nat.eq_zero_or_pos n with h0 | h0
    · subst h0
      rw [toL_zero]
      exact Limbs.nil
    · rw [toL_pos h0]
      exact Limbs.cons (by omega) (by omega) (ih _ (by omega))
theorem val_nonneg {xs : List Int} (h : Limbs xs) : 0 ≤ val xs := by
  induction xs with
  | nil => simp [val]
  | cons d l ih =>
    have := ih h.tail
    have := h.head
    simp only [val]
    omega
theorem val_append (a b : List Int) : val (a ++ b) = val a + (pw a.length : Int) * val b := by
  induction a with
  | nil => simp [val, pw_zero]
  | cons d l ih =>
    rw [List.cons_append, val, ih, val, List.length_cons, pw_succ, Int.natCast_mul, Int.mul_add, ← Int.add_assoc, ← Int.mul_assoc]
    rfl
theorem val_snoc (a : List Int) (d : Int) : val (a ++ [d]) = val a + (pw a.length : Int) * d := by
  rw [val_append]
  simp [val]
theorem val_lt {xs : List Int} (h : Limbs xs) : val xs < (pw xs.length : Int) := by
  induction xs with
  | nil => simp [val, pw_zero]
  | cons d l ih =>
    have := ih h.tail
    have := h.head
    rw [val, List.length_cons, pw_succ, Int.natCast_mul]
    omega
theorem val_replicate (n : Nat) : val (List.replicate n 0) = 0 := by
  induction n with
  | zero => rfl
  | succ n ih => rw [List.replicate_succ, val, ih]; rfl
theorem val_set {xs : List Int} {k : Nat} {d e : Int} (hd : xs[k]? = some d) : val (xs.set k e) = val xs + (pw k : Int) * (e - d) := by
  induction xs generalizing k with
  | nil => simp at hd
  | cons a l ih =>
    cases k with
    | zero =>
      simp at hd
      subst hd
      simp only [List.set_cons_zero, val, pw_zero]
      omega
    | succ k =>
      simp only [List.getElem?_cons_succ] at hd
      rw [List.set_cons_succ, val, ih hd, val, pw_succ, Int.natCast_mul, Int.mul_add, ← Int.mul_assoc, Int.add_assoc]
      rfl

/-- A list of limbs without a zero limb at the end is the one of its value. -/
theorem toL_of_limbs {xs : List Int} (h : Limbs xs) (hl : xs.getLast? ≠ some 0) : toL (val xs).toNat = xs := by
  induction xs with
  | nil => simp [val, toL_zero]
  | cons d l ih =>
    have hd := h.head
    have hv := val_nonneg h.tail
    have hl' : l.getLast? ≠ some 0 := by
      cases l with
      | nil => simp
      | cons e r => rwa [List.getLast?_cons_cons] at hl
    have hpos : 0 < (val (d :: l)).toNat := by
      simp only [val]
      rcases Int.lt_or_le 0 d with h0 | h0
      · omega
      · have hd0 : d = 0 := by omega
        subst hd0
        cases l with
        | nil => simp at hl
        | cons e r =>
          have : val (e :: r) ≠ 0 := by
            intro hz
            have := ih h.tail hl'
            rw [hz] at this
            simp [toL_zero] at this
          omega
    have hm : (val (d :: l)).toNat % 1000000000 = d.toNat := by simp only [val]; omega
    have hq : (val (d :: l)).toNat / 1000000000 = (val l).toNat := by simp only [val]; omega
    rw [toL_pos hpos, hm, hq, ih h.tail hl']
    congr 1
    omega
theorem toL_last {n : Nat} : (toL n).getLast? ≠ some 0 := by
  induction n using Nat.strongRecOn with
  | _ n ih =>
    rcases Nat.eq_zero_or_pos n with h0 | h0
    · subst h0
      rw [toL_zero]
      simp
    · rw [toL_pos h0]
      by_cases hq : n / 1000000000 = 0
      · rw [hq, toL_zero]
        simp
        omega
      · have hp : toL (n / 1000000000) = (((n / 1000000000) % 1000000000 : Nat) : Int) :: toL (n / 1000000000 / 1000000000) := toL_pos (by omega)
        rw [hp, List.getLast?_cons_cons, ← hp]
        exact ih _ (by omega)
theorem toL_len_lt {n k : Nat} (h : n < pw k) : (toL n).length ≤ k := by
  induction k generalizing n with
  | zero =>
    rw [pw_zero] at h
    have : n = 0 := by omega
    subst this
    simp [toL_zero]
  | succ k ih =>
    rw [pw_succ] at h
    rcases Nat.eq_zero_or_pos n with h0 | h0
    · subst h0
      simp [toL_zero]
    · rw [toL_pos h0, List.length_cons]
      have := ih (n := n / 1000000000) (by omega)
      omega
theorem lt_of_toL_len {n : Nat} : n < pw (toL n).length := by
  have h := val_lt (limbs_toL n)
  rw [val_toL] at h
  omega
theorem toL_len_le {n k : Nat} : (toL n).length ≤ k ↔ n < pw k :=
  ⟨fun h => Nat.lt_of_lt_of_le lt_of_toL_len (pw_le h), toL_len_lt⟩
theorem toL_len_ge {n : Nat} (h : 0 < n) : pw ((toL n).length - 1) ≤ n := by
  rcases Nat.lt_or_ge n (pw ((toL n).length - 1)) with hlt | hge
  · have := toL_len_lt hlt
    have h1 : 0 < (toL n).length := by
      rw [toL_pos h]
      simp
    omega
  · exact hge
/-- The k-th limb. -/
theorem toL_get {n k : Nat} (h : k < (toL n).length) : (toL n)[k]? = some ((n / pw k % 1000000000 : Nat) : Int) := by
  induction k generalizing n with
  | zero =>
    have hp : 0 < n := by
      rcases Nat.eq_zero_or_pos n with h0 | h0
      · subst h0; simp [toL_zero] at h
      · exact h0
    rw [toL_pos hp, pw_zero]
    simp
  | succ k ih =>
    have hp : 0 < n := by
      rcases Nat.eq_zero_or_pos n with h0 | h0
      · subst h0; simp [toL_zero] at h
      · exact h0
    rw [toL_pos hp] at h ⊢
    rw [List.length_cons] at h
    rw [List.getElem?_cons_succ, ih (by omega), pw_succ, Nat.div_div_eq_div_mul]
theorem toL_at (n k : Nat) (h : k < (toL n).length) : (toL n)[k]? = some ((n / pw k % 1000000000 : Nat) : Int) := toL_get h
theorem val_inj {a b : List Int} (ha : Limbs a) (hb : Limbs b) (la : a.getLast? ≠ some 0) (lb : b.getLast? ≠ some 0) (h : val a = val b) : a = b := by
  rw [← toL_of_limbs ha la, ← toL_of_limbs hb lb, h]

/-- What NatOk accepts. -/
theorem okB_iff {xs : List Int} : okB xs = true ↔ xs.length ≤ 60 ∧ Limbs xs ∧ xs.getLast? ≠ some 0 := by
  unfold okB
  rw [Bool.and_eq_true, Bool.and_eq_true, decide_eq_true_iff, List.all_eq_true, bne_iff_ne, and_assoc]
  refine and_congr_right fun _ => and_congr_left fun _ => ⟨fun h d hd => by simpa [limbB] using h d hd, fun h d hd => by simpa [limbB] using h d hd⟩
theorem okB_toL {xs : List Int} (h : okB xs = true) : ∃ m : Nat, xs = toL m ∧ m < pw 60 := by
  obtain ⟨h1, h2, h3⟩ := okB_iff.1 h
  refine ⟨(val xs).toNat, (toL_of_limbs h2 h3).symm, ?_⟩
  have hv := val_lt h2
  have hp := pw_le h1
  have := val_nonneg h2
  omega
theorem okB_of_toL {m : Nat} (h : m < pw 60) : okB (toL m) = true := okB_iff.2 ⟨toL_len_le.2 h, limbs_toL m, toL_last⟩
theorem okB_toL_iff {m : Nat} : okB (toL m) = true ↔ m < pw 60 := ⟨fun h => toL_len_le.1 (okB_iff.1 h).1, okB_of_toL⟩
theorem toL_inj {m n : Nat} (h : toL m = toL n) : m = n := by
  have := congrArg val h
  rw [val_toL, val_toL] at this
  omega
end Go.Proofs.YticekjagmcphbaaGreatDoor
