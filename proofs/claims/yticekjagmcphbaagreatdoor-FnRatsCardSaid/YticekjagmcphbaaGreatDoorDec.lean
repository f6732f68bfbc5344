/-
  Decimal digits and limbs: plain law, no program in sight. Written by an AI agent.
-/
import Derived.Test.YticekjagmcphbaaGreatDoorNum
import Derived.Test.YticekjagmcphbaaGreatDoorText
import Derived.Lib.ItoaNum
namespace Go.Proofs.YticekjagmcphbaaGreatDoor
open Go.RowKit

/-- The number that decimal digits spell. -/
def numD (l : List UInt8) : Nat := l.foldl (fun a d => 10 * a + (d.toNat - 48)) 0
theorem numD_nil : numD [] = 0 := rfl
theorem numD_snoc (l : List UInt8) (d : UInt8) : numD (l ++ [d]) = 10 * numD l + (d.toNat - 48) := by
  unfold numD
  rw [List.foldl_append]
  rfl
theorem foldD (l : List UInt8) : ∀ a : Nat, l.foldl (fun a d => 10 * a + (d.toNat - 48)) a = a * 10 ^ l.length + numD l := by
  induction l with
  | nil => intro a; simp [numD]
  | cons d l ih =>
    intro a
    have h1 := ih (10 * a + (d.toNat - 48))
    have h2 := ih (10 * 0 + (d.toNat - 48))
    unfold numD
    rw [List.foldl_cons, List.foldl_cons, h1, h2, List.length_cons, Nat.pow_succ, Nat.add_mul, Nat.mul_zero, Nat.zero_add, Nat.mul_comm 10 a, Nat.mul_assoc, Nat.mul_comm 10 (10 ^ l.length), Nat.add_assoc]
theorem numD_append (a b : List UInt8) : numD (a ++ b) = numD a * 10 ^ b.length + numD b := by
  conv => lhs; unfold numD
  rw [List.foldl_append, foldD b]
  rfl
theorem numD_cons (d : UInt8) (l : List UInt8) : numD (d :: l) = (d.toNat - 48) * 10 ^ l.length + numD l := by
  have h := numD_append [d] l
  rw [show numD [d] = d.toNat - 48 by simp [numD]] at h
  simpa using h
theorem digB_nat {d : UInt8} (h : digB d = true) : 48 ≤ d.toNat ∧ d.toNat ≤ 57 := by
  have := of_decide_eq_true h
  omega
theorem numD_lt {l : List UInt8} (h : l.all digB = true) : numD l < 10 ^ l.length := by
  induction l with
  | nil => simp [numD]
  | cons d l ih =>
    rw [List.all_cons, Bool.and_eq_true] at h
    have h1 := digB_nat h.1
    have h2 := ih h.2
    rw [numD_cons, List.length_cons, Nat.pow_succ, Nat.mul_comm (10 ^ l.length)]
    have h3 : (d.toNat - 48) * 10 ^ l.length ≤ 9 * 10 ^ l.length := Nat.mul_le_mul_right _ (by omega)
    generalize 10 ^ l.length = P at *
    generalize (d.toNat - 48) * P = Q at *
    omega
theorem numD_pos {d : UInt8} {l : List UInt8} (h : digB d = true) (h0 : d.toNat ≠ 48) : 0 < numD (d :: l) := by
  have h1 := digB_nat h
  rw [numD_cons]
  have : 0 < (d.toNat - 48) * 10 ^ l.length := Nat.mul_pos (by omega) (Nat.pow_pos (by omega))
  omega

/-- Parsing nine digits at a time from the end: what has been done when the first e digits are left. -/
structure ParseAt (s : List UInt8) (e : Nat) (xs : List Int) : Prop where
  lim : Limbs xs
  sum : val xs + (pw xs.length : Int) * (numD (s.take e) : Int) = (numD s : Int)
  top : e = 0 → s.head? ≠ some 48 → xs.getLast? ≠ some 0
theorem ParseAt.start (s : List UInt8) (h : 0 < s.length) : ParseAt s s.length [] := by
  refine ⟨Limbs.nil, ?_, fun h0 _ => by omega⟩
  rw [List.take_length]
  simp [val, pw_zero]
theorem all_sub {l : List UInt8} {a b : Nat} (h : l.all digB = true) : ((l.take a).drop b).all digB = true := by
  rw [List.all_eq_true] at h ⊢
  exact fun x hx => h x (List.mem_of_mem_take (List.mem_of_mem_drop hx))
theorem seg_len {s : List UInt8} {e f : Nat} (he : e ≤ s.length) : ((s.take e).drop f).length = e - f := by
  rw [List.length_drop, List.length_take]
  omega
theorem num_split {s : List UInt8} {e f : Nat} (he : e ≤ s.length) (hf : f ≤ e) : numD (s.take e) = numD (s.take f) * 10 ^ (e - f) + numD ((s.take e).drop f) := by
  conv => lhs; rw [← List.take_append_drop f (s.take e)]
  rw [numD_append, seg_len he, List.take_take, Nat.min_eq_left hf]
theorem seg_small {s : List UInt8} {e : Nat} (he : e ≤ s.length) (h : s.all digB = true) : numD ((s.take e).drop (e - 9)) < 1000000000 := by
  have h1 := numD_lt (all_sub (a := e) (b := e - 9) h)
  rw [seg_len he] at h1
  have h2 : 10 ^ (e - (e - 9)) ≤ 10 ^ 9 := Nat.pow_le_pow_right (by decide) (by omega)
  have h3 : (10 : Nat) ^ 9 = 1000000000 := by decide
  omega
theorem seg_step {s : List UInt8} {e : Nat} (he : e ≤ s.length) : numD (s.take e) = numD ((s.take e).drop (e - 9)) + 1000000000 * numD (s.take (e - 9)) := by
  rw [num_split he (Nat.sub_le e 9)]
  rcases Nat.lt_or_ge e 9 with h | h
  · rw [show e - 9 = 0 by omega, List.take_zero, numD_nil]
    omega
  · rw [show e - (e - 9) = 9 by omega, show (10 : Nat) ^ 9 = 1000000000 by decide]
    omega
theorem ParseAt.step {s : List UInt8} {e : Nat} {xs : List Int} {y : Int} (h : ParseAt s e xs) (h0 : 0 < e) (he : e ≤ s.length) (hd : s.all digB = true) (hy : y = (numD ((s.take e).drop (e - 9)) : Int)) : ParseAt s (e - 9) (xs ++ [y]) := by
  subst hy
  have h1 := seg_small he hd
  refine ⟨h.lim.append (Limbs.cons (by omega) (by omega) Limbs.nil), ?_, fun h2 h3 => ?_⟩
  · have hs := h.sum
    rw [seg_step he, Int.natCast_add, Int.natCast_mul, Int.mul_add] at hs
    rw [val_snoc, List.length_append, List.length_singleton, pw_succ, Int.natCast_mul, ← hs, Int.mul_comm ((1000000000 : Nat) : Int), Int.mul_assoc, Int.add_assoc]
  · rw [List.getLast?_append, List.getLast?_singleton, Option.some_or]
    intro h4
    have h5 := Option.some.inj h4
    rw [h2, List.drop_zero] at h5
    cases s with
    | nil => simp at he; omega
    | cons d l =>
      rw [List.all_cons, Bool.and_eq_true] at hd
      obtain ⟨k, rfl⟩ : ∃ k, e = k + 1 := ⟨e - 1, by omega⟩
      rw [List.take_succ_cons] at h5
      have h6 := numD_pos (l := l.take k) hd.1 (fun h7 => h3 (by rw [List.head?_cons]; congr 1; exact UInt8.toNat_inj.1 h7))
      omega
theorem ParseAt.done {s : List UInt8} {xs : List Int} (h : ParseAt s 0 xs) : val xs = (numD s : Int) := by
  have hs := h.sum
  rw [List.take_zero, numD_nil] at hs
  simpa using hs
theorem seg_snoc {s : List UInt8} {f i : Nat} {d : UInt8} (hf : f ≤ i) (hd : s[i]? = some d) : numD ((s.take (i + 1)).drop f) = 10 * numD ((s.take i).drop f) + (d.toNat - 48) := by
  have hi := (List.getElem?_eq_some_iff.1 hd).1
  rw [List.take_add_one, hd, List.drop_append_of_le_length (by rw [List.length_take]; omega)]
  exact numD_snoc _ _
theorem seg_nil {s : List UInt8} {f : Nat} : numD ((s.take f).drop f) = 0 := by
  rw [List.drop_eq_nil_of_le (by rw [List.length_take]; omega)]
  rfl
theorem seg_lt {s : List UInt8} {e f i : Nat} (hi : i ≤ s.length) (hie : i ≤ e) (hf : e ≤ f + 9) (h : s.all digB = true) : numD ((s.take i).drop f) < 1000000000 := by
  have h1 := numD_lt (all_sub (a := i) (b := f) h)
  rw [seg_len hi] at h1
  have h2 : 10 ^ (i - f) ≤ 10 ^ 9 := Nat.pow_le_pow_right (by decide) (by omega)
  have h3 : (10 : Nat) ^ 9 = 1000000000 := by decide
  omega

/-- The bytes of a number, padded with zeros to n places. -/
def padL (n : Nat) (l : List UInt8) : List UInt8 := List.replicate (n - l.length) 48 ++ l
theorem dec_small {n : Nat} (h : n < 10) : Lib.decDigits n = [UInt8.ofNat (48 + n)] := Lib.decDigits_one h
theorem dec_big {n : Nat} (h : ¬ n < 10) : Lib.decDigits n = Lib.decDigits (n / 10) ++ [UInt8.ofNat (48 + n % 10)] := by
  rw [Lib.decDigits, dif_neg h]
theorem dec_len {k n : Nat} (h : n < 10 ^ (k + 1)) : (Lib.decDigits n).length ≤ k + 1 := by
  induction k generalizing n with
  | zero => rw [dec_small (by simpa using h)]; simp
  | succ k ih =>
    rcases Nat.lt_or_ge n 10 with h1 | h1
    · rw [dec_small h1]; simp
    · rw [dec_big (by omega), List.length_append, List.length_singleton]
      have := @ih (n / 10) (by rw [Nat.pow_succ] at h; omega)
      omega
theorem pad_next {k n : Nat} (hk : 0 < k) (h : n < 10 ^ (k + 1)) : padL (k + 1) (Lib.decDigits n) = padL k (Lib.decDigits (n / 10)) ++ [UInt8.ofNat (48 + n % 10)] := by
  unfold padL
  rcases Nat.lt_or_ge n 10 with h1 | h1
  · rw [dec_small h1, show n / 10 = 0 by omega, dec_small (by omega), show n % 10 = n by omega]
    obtain ⟨j, rfl⟩ : ∃ j, k = j + 1 := ⟨k - 1, by omega⟩
    simp only [List.length_singleton]
    rw [show j + 1 + 1 - 1 = j + 1 by omega, show j + 1 - 1 = j by omega, List.replicate_succ']
    rfl
  · rw [dec_big (by omega), List.length_append, List.length_singleton, ← List.append_assoc]
    congr 2
    rw [show k + 1 - ((Lib.decDigits (n / 10)).length + 1) = k - (Lib.decDigits (n / 10)).length by omega]
theorem dec_pad {k : Nat} : ∀ {h l : Nat}, 0 < h → l < 10 ^ (k + 1) → Lib.decDigits (h * 10 ^ (k + 1) + l) = Lib.decDigits h ++ padL (k + 1) (Lib.decDigits l) := by
  induction k with
  | zero =>
    intro h l h0 h1
    have h2 : l < 10 := by simpa using h1
    rw [dec_big (by omega), show (h * 10 ^ (0 + 1) + l) / 10 = h by omega, show (h * 10 ^ (0 + 1) + l) % 10 = l by omega, dec_small h2]
    rfl
  | succ k ih =>
    intro h l h0 h1
    have hp : 0 < 10 ^ (k + 1) := Nat.pow_pos (by omega)
    have e1 : 10 ^ (k + 1 + 1) = 10 * 10 ^ (k + 1) := by rw [Nat.pow_succ, Nat.mul_comm]
    rw [e1] at h1
    have h2 : h * (10 * 10 ^ (k + 1)) = 10 * (h * 10 ^ (k + 1)) := by rw [← Nat.mul_assoc, Nat.mul_comm h 10, Nat.mul_assoc]
    have h3 : 10 ^ (k + 1) ≤ h * 10 ^ (k + 1) := Nat.le_mul_of_pos_left _ h0
    rw [e1, h2]
    rw [dec_big (by omega), show (10 * (h * 10 ^ (k + 1)) + l) / 10 = h * 10 ^ (k + 1) + l / 10 by omega, show (10 * (h * 10 ^ (k + 1)) + l) % 10 = l % 10 by omega,
      ih h0 (by omega), List.append_assoc, ← pad_next (by omega) (by rw [e1]; exact h1)]
theorem digB_dec (n : Nat) : digB (UInt8.ofNat (48 + n % 10)) = true := by
  unfold digB
  rw [decide_eq_true_iff, UInt8.toNat_ofNat_of_lt' (by simp [UInt8.size]; omega)]
  omega
theorem dec_all (n : Nat) : (Lib.decDigits n).all digB = true := by
  induction n using Nat.strongRecOn with
  | _ n ih =>
    rcases Nat.lt_or_ge n 10 with h | h
    · rw [dec_small h]
      have := digB_dec n
      rw [show n % 10 = n by omega] at this
      rw [List.all_cons, this]
      rfl
    · rw [dec_big (by omega), List.all_append, ih (n / 10) (by omega), List.all_cons, digB_dec n]
      rfl
theorem num_dec (n : Nat) : numD (Lib.decDigits n) = n := by
  induction n using Nat.strongRecOn with
  | _ n ih =>
    have e : ∀ k, k < 10 → (UInt8.ofNat (48 + k)).toNat - 48 = k := fun k hk => by
      rw [UInt8.toNat_ofNat_of_lt' (by simp [UInt8.size]; omega)]
      omega
    rcases Nat.lt_or_ge n 10 with h | h
    · rw [dec_small h, show [UInt8.ofNat (48 + n)] = [] ++ [UInt8.ofNat (48 + n)] from rfl, numD_snoc, e n h, numD_nil]
      omega
    · rw [dec_big (by omega), numD_snoc, ih (n / 10) (by omega), e _ (by omega)]
      omega
theorem dec_head {n : Nat} (h0 : 0 < n) : (Lib.decDigits n).head? ≠ some 48 := by
  induction n using Nat.strongRecOn with
  | _ n ih =>
    rcases Nat.lt_or_ge n 10 with h | h
    · rw [dec_small h, List.head?_cons]
      intro h1
      have h2 := congrArg UInt8.toNat (Option.some.inj h1)
      rw [UInt8.toNat_ofNat_of_lt' (by simp [UInt8.size]; omega)] at h2
      simp at h2
      omega
    · rw [dec_big (by omega), List.head?_append]
      have h1 := ih (n / 10) (by omega) (by omega)
      cases h2 : (Lib.decDigits (n / 10)).head? with
      | none =>
        have h3 := num_dec (n / 10)
        rw [List.head?_eq_none_iff.1 h2, numD_nil] at h3
        omega
      | some d =>
        rw [h2] at h1
        simpa using h1
theorem dec_ne (n : Nat) : 0 < (Lib.decDigits n).length := by
  rcases Nat.lt_or_ge n 10 with h | h
  · rw [dec_small h]; simp
  · rw [dec_big (by omega)]; simp
end Go.Proofs.YticekjagmcphbaaGreatDoor
