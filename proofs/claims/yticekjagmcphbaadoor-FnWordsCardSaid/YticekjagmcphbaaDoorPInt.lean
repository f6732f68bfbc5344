/-
  Reading integers: plain law, no program in sight. Written by an AI agent.
-/
import Derived.Test.YticekjagmcphbaaDoorParseB
import Derived.Lib.AtoiAll
import Derived.Lib.AtoiAllCases
import Derived.Lib.ItoaLen
namespace Go.Proofs.YticekjagmcphbaaDoor
open Go.RowKit

theorem pu10 : ∀ (l : List UInt8) (acc : Nat), l.all digB = true → acc * 10 ^ l.length + numD l < 18446744073709551616 → Lib.parseUint10 acc l = .ok (acc * 10 ^ l.length + numD l) := by
  intro l
  induction l with
  | nil =>
    intro acc _ _
    rw [Lib.parseUint10]
    simp [numD]
  | cons c r ih =>
    intro acc hd hb
    rw [List.all_cons, Bool.and_eq_true] at hd
    have h1 := digB_nat hd.1
    rw [numD_cons, List.length_cons, Nat.pow_succ] at hb
    have hP : 1 ≤ 10 ^ r.length := Nat.one_le_pow _ _ (by decide)
    have e1 : acc * (10 ^ r.length * 10) = (acc * 10) * 10 ^ r.length := by rw [Nat.mul_comm (10 ^ r.length), Nat.mul_assoc]
    have e2 : (acc * 10 + (c.toNat - 48)) * 10 ^ r.length = (acc * 10) * 10 ^ r.length + (c.toNat - 48) * 10 ^ r.length := Nat.add_mul _ _ _
    have h2 : acc * 10 + (c.toNat - 48) ≤ (acc * 10 + (c.toNat - 48)) * 10 ^ r.length := Nat.le_mul_of_pos_right _ hP
    rw [e1] at hb
    have h3 := ih (acc * 10 + (c.toNat - 48)) hd.2 (by rw [e2]; omega)
    rw [Lib.parseUint10, if_pos h1, if_neg (by omega), if_neg (by omega), h3, numD_cons, List.length_cons, Nat.pow_succ, e1, e2]
    congr 1
    omega
theorem dec_cons (m : Nat) : ∃ c r, Lib.decDigits m = c :: r ∧ digB c = true := by
  have h1 := dec_ne m
  have h2 := dec_all m
  cases h : Lib.decDigits m with
  | nil => rw [h] at h1; cases h1
  | cons c r =>
    rw [h, List.all_cons, Bool.and_eq_true] at h2
    exact ⟨c, r, rfl, h2.1⟩
theorem mag_dec (m : Nat) (hm : m < 18446744073709551616) : Lib.parseMag (Lib.decDigits m) = .ok m := by
  have h1 := pu10 (Lib.decDigits m) 0 (dec_all m) (by rw [num_dec]; omega)
  rw [num_dec, Nat.zero_mul, Nat.zero_add] at h1
  unfold Lib.parseMag
  rw [if_neg, h1]
  intro h
  have := dec_ne m
  rw [h] at this
  cases this
theorem atoi_itoa {n : Int} (h0 : -9223372036854775808 ≤ n) (h1 : n ≤ 9223372036854775807) : Lib.atoiAll (Lib.itoa n) = .ok n := by
  unfold Lib.itoa
  split
  · unfold Lib.atoiAll
    simp only
    rw [if_pos (.inr rfl), mag_dec _ (by omega)]
    simp only
    rw [if_neg (by intro h; exact h.1 rfl), if_neg (by omega), if_pos (show UInt8.toNat 45 = 45 from rfl)]
    congr 1
    omega
  · obtain ⟨c, r, hcr, hc⟩ := dec_cons n.toNat
    have h2 := digB_nat hc
    have h3 := mag_dec n.toNat (by omega)
    rw [hcr] at h3 ⊢
    unfold Lib.atoiAll
    simp only
    rw [if_neg (by omega), h3]
    simp only
    rw [if_neg (by omega), if_neg (by omega), if_neg (by omega)]
    congr 1
    omega
/-- What ParseInt answers. -/
def parseIntF (s : ByteArray) : Int × Bool :=
  match Lib.atoiAll s.data.toList with
  | .ok v => if Lib.itoa v = s.data.toList then (v, true) else (0, false)
  | _ => (0, false)
theorem parseInt_yes {s : ByteArray} {n : Int} (h0 : -9223372036854775808 ≤ n) (h1 : n ≤ 9223372036854775807) (h : Lib.itoa n = s.data.toList) : parseIntF s = (n, true) := by
  unfold parseIntF
  rw [← h, atoi_itoa h0 h1]
  simp
theorem parseInt_no {s : ByteArray} (h : ∀ n : Int, -9223372036854775808 ≤ n → n ≤ 9223372036854775807 → Lib.itoa n ≠ s.data.toList) : parseIntF s = (0, false) := by
  unfold parseIntF
  split
  · rename_i v hv
    obtain ⟨b1, b2⟩ := Lib.atoiAll_bounds hv
    rw [if_neg (h v b1 b2)]
  · rfl
/-- What a string that spells n looks like. -/
theorem itoa_parts {s : ByteArray} {n : Int} (h : Lib.itoa n = s.data.toList) : minusB s = decide (n < 0) ∧ (behindB s).data.toList = Lib.decDigits n.natAbs := by
  by_cases hn : n < 0
  · have e : s.data.toList = 45 :: Lib.decDigits n.natAbs := by rw [← h]; unfold Lib.itoa; rw [if_pos hn]
    have hm : minusB s = true := by unfold minusB; rw [e]; rfl
    refine ⟨by rw [hm, decide_eq_true hn], ?_⟩
    unfold behindB
    rw [if_pos hm, ByteArray.data_extract, Array.toList_extract, e]
    have h1 := congrArg List.length e
    rw [list_size, List.length_cons] at h1
    rw [List.extract_eq_take_drop, List.drop_succ_cons, List.drop_zero, List.take_of_length_le (by omega)]
  · have e : s.data.toList = Lib.decDigits n.natAbs := by rw [← h]; unfold Lib.itoa; rw [if_neg hn]; congr 1; omega
    obtain ⟨c, r, hcr, hc⟩ := dec_cons n.natAbs
    have h2 := digB_nat hc
    have hm : minusB s = false := by
      unfold minusB
      rw [e, hcr, List.head?_cons]
      refine decide_eq_false ?_
      intro h3
      rw [Option.some.inj h3] at h2
      simp at h2
    refine ⟨by rw [hm, decide_eq_false hn], ?_⟩
    unfold behindB
    rw [if_neg (by rw [hm]; simp)]
    exact e
theorem not_spelt {s : ByteArray} (h : digitsB (behindB s) = false) : parseIntF s = (0, false) := parseInt_no fun n _ _ he => by
  obtain ⟨_, h2⟩ := itoa_parts he
  have h3 : digitsB (behindB s) = true := by
    unfold digitsB
    rw [h2, dec_all, ← list_size, h2]
    simp [dec_ne]
  rw [h3] at h
  cases h
theorem too_long {s : ByteArray} (h : 19 < (behindB s).size) : parseIntF s = (0, false) := parseInt_no fun n h0 h1 he => by
  obtain ⟨_, h2⟩ := itoa_parts he
  have h3 := list_size (behindB s)
  rw [h2] at h3
  have h4 := dec_len (k := 18) (n := n.natAbs) (by omega)
  omega
theorem num_mono {l : List UInt8} {i : Nat} (_h : l.all digB = true) : numD (l.take i) ≤ numD l := by
  conv => rhs; rw [← List.take_append_drop i l]
  rw [numD_append]
  have : numD (l.take i) ≤ numD (l.take i) * 10 ^ (l.drop i).length := Nat.le_mul_of_pos_right _ (Nat.pow_pos (by decide))
  omega
theorem too_great {s : ByteArray} {i : Nat} (hd : (behindB s).data.toList.all digB = true) (h : 9223372036854775808 < numD ((behindB s).data.toList.take i)) : parseIntF s = (0, false) := parseInt_no fun n h0 h1 he => by
  obtain ⟨_, h2⟩ := itoa_parts he
  have h3 := num_mono (i := i) hd
  rw [h2, num_dec] at h3
  rw [h2] at h
  omega
theorem great_pos {s : ByteArray} (h : minusB s = false) (h9 : numD (behindB s).data.toList = 9223372036854775808) : parseIntF s = (0, false) := parseInt_no fun n h0 h1 he => by
  obtain ⟨h2, h3⟩ := itoa_parts he
  rw [h3, num_dec] at h9
  rw [h] at h2
  have := of_decide_eq_false h2.symm
  omega
theorem other_text {s : ByteArray} {n : Int} (hn : n = bigZ (minusB s) (numD (behindB s).data.toList)) (h : ¬ Lib.itoa n = s.data.toList) : parseIntF s = (0, false) := parseInt_no fun v h0 h1 he => by
  obtain ⟨h2, h3⟩ := itoa_parts he
  refine h ?_
  rw [show n = v by
    rw [hn, h2, h3, num_dec]
    unfold bigZ
    by_cases hv : v < 0
    · rw [if_pos (decide_eq_true hv)]; omega
    · rw [if_neg (by simpa using hv)]; omega]
  exact he
theorem quo_iff {e z : Int} (h : e < 0) : z < e.tdiv 10 ↔ 10 * z < e := by
  obtain ⟨m, rfl⟩ : ∃ m : Nat, e = -(m : Int) := ⟨e.natAbs, by omega⟩
  rw [Int.neg_tdiv, show ((m : Int).tdiv 10) = ((m / 10 : Nat) : Int) from rfl]
  omega
end Go.Proofs.YticekjagmcphbaaDoor
