/-
  Plain law for ParseRat. Written by an AI agent.
-/
import Derived.Test.YticekjagmcphbaaDoorFmtB
import Derived.Test.YticekjagmcphbaaDoorParseB
import Derived.Test.YticekjagmcphbaaDoorSplit
namespace Go.Proofs.YticekjagmcphbaaDoor
open Go.RowKit

/-- The fraction that a string might spell: its number, its denominator's limbs; could it be read? -/
def ratCand (s : ByteArray) : Int × List Int × Bool :=
  match splitF s ⟨#[47]⟩ with
  | [] => (0, [], false)
  | [a] => ((parseBigF a).1, [1], (parseBigF a).2)
  | a :: b :: _ => ((parseBigF a).1, (parseNatF b).1, (parseBigF a).2 && (parseNatF b).2)
/-- What ParseRat answers. -/
noncomputable def parseRatF (s : ByteArray) : (Bool × List Int × List Int) × Bool :=
  @ite _ ((ratCand s).2.2 = true ∧ ratOkB (decide ((ratCand s).1 < 0)) (toL (ratCand s).1.natAbs) (ratCand s).2.1 = true ∧ fmtRatF (decide ((ratCand s).1 < 0)) (toL (ratCand s).1.natAbs) (ratCand s).2.1 = s) (Classical.propDecidable _)
    ((decide ((ratCand s).1 < 0), toL (ratCand s).1.natAbs, (ratCand s).2.1), true) ((false, [], []), false)
theorem pr_yes {s : ByteArray} {z : Int} {ys : List Int} (h : ratCand s = (z, ys, true)) (h1 : ratOkB (decide (z < 0)) (toL z.natAbs) ys = true) (h2 : fmtRatF (decide (z < 0)) (toL z.natAbs) ys = s) :
    parseRatF s = ((decide (z < 0), toL z.natAbs, ys), true) := by
  unfold parseRatF
  rw [if_pos (by rw [h]; exact ⟨rfl, h1, h2⟩), h]
theorem pr_no {s : ByteArray} (h : ¬ ((ratCand s).2.2 = true ∧ ratOkB (decide ((ratCand s).1 < 0)) (toL (ratCand s).1.natAbs) (ratCand s).2.1 = true ∧ fmtRatF (decide ((ratCand s).1 < 0)) (toL (ratCand s).1.natAbs) (ratCand s).2.1 = s)) : parseRatF s = ((false, [], []), false) := by
  unfold parseRatF
  rw [if_neg h]
theorem pr_bad {s : ByteArray} (h : (ratCand s).2.2 = false) : parseRatF s = ((false, [], []), false) := pr_no fun h1 => by rw [h] at h1; exact absurd h1.1 (by simp)
theorem pr_notok {s : ByteArray} {z : Int} {ys : List Int} {ok : Bool} (h : ratCand s = (z, ys, ok)) (h1 : ratOkB (decide (z < 0)) (toL z.natAbs) ys = false) : parseRatF s = ((false, [], []), false) := pr_no fun h2 => by
  rw [h] at h2
  rw [h1] at h2
  exact absurd h2.2.1 (by simp)
theorem pr_other {s : ByteArray} {z : Int} {ys : List Int} {ok : Bool} (h : ratCand s = (z, ys, ok)) (h1 : ¬ fmtRatF (decide (z < 0)) (toL z.natAbs) ys = s) : parseRatF s = ((false, [], []), false) := pr_no fun h2 => by
  rw [h] at h2
  exact h1 h2.2.2
theorem cand_one {s a : ByteArray} (h : splitF s ⟨#[47]⟩ = [a]) : ratCand s = ((parseBigF a).1, [1], (parseBigF a).2) := by unfold ratCand; rw [h]
theorem cand_two {s a b : ByteArray} {r : List ByteArray} (h : splitF s ⟨#[47]⟩ = a :: b :: r) : ratCand s = ((parseBigF a).1, (parseNatF b).1, (parseBigF a).2 && (parseNatF b).2) := by unfold ratCand; rw [h]

theorem has1 (c d : UInt8) : hasB ⟨#[c]⟩ d = true ↔ c = d := by
  unfold hasB
  simp
theorem parts_count {s : ByteArray} {c : UInt8} : ∀ (n i f : Nat), n = s.size - i → i ≤ s.size → (parts s ⟨#[c]⟩ f i).length = (s.data.toList.drop i).count c + 1 := by
  intro n
  induction n with
  | zero =>
    intro i f h h2
    rw [parts_end (by omega), List.drop_eq_nil_of_le (by rw [list_size]; omega)]
    rfl
  | succ n ih =>
    intro i f h h2
    have hi : i < s.size := by omega
    have h8 : s.data.toList.drop i = s[i] :: s.data.toList.drop (i + 1) := by
      rw [List.drop_eq_getElem_cons (by rw [list_size]; exact hi)]
      rfl
    cases hb : hasB ⟨#[c]⟩ s[i] with
    | true =>
      rw [parts_hit hi hb, List.length_cons, ih (i + 1) (i + 1) (by omega) (by omega), h8, ← (has1 c s[i]).1 hb, List.count_cons_self]
    | false =>
      rw [parts_miss hi hb, ih (i + 1) f (by omega) (by omega), h8, List.count_cons_of_ne (by
        intro h9
        rw [(has1 c s[i]).2 h9.symm] at hb
        cases hb)]
theorem count_dig {l : List UInt8} (h : l.all digB = true) : l.count 47 = 0 := by
  rw [List.count_eq_zero]
  intro h1
  have h2 := List.all_eq_true.1 h 47 h1
  exact absurd h2 (by decide)
theorem count_nat (xs : List Int) : (fmtNatF xs).data.toList.count 47 = 0 := by
  unfold fmtNatF
  split
  · exact count_dig (dec_all _)
  · rfl
theorem count_big (s : Bool) (xs : List Int) : (fmtBigF s xs).data.toList.count 47 = 0 := by
  unfold fmtBigF
  split
  · split
    · rw [show (⟨#[45]⟩ ++ fmtNatF xs : ByteArray).data.toList = 45 :: (fmtNatF xs).data.toList by simp, List.count_cons_of_ne (by decide)]
      exact count_nat xs
    · exact count_nat xs
  · rfl
theorem count_rat (s : Bool) (xs ys : List Int) : (fmtRatF s xs ys).data.toList.count 47 ≤ 1 := by
  unfold fmtRatF
  split
  · split
    · rw [count_big]; omega
    · rw [show (fmtBigF s xs ++ (⟨#[47]⟩ ++ fmtNatF ys) : ByteArray).data.toList = (fmtBigF s xs).data.toList ++ 47 :: (fmtNatF ys).data.toList by simp, List.count_append, count_big, List.count_cons_self, count_nat]
      omega
  · show ([] : List UInt8).count 47 ≤ 1
    simp
theorem pr_long {s : ByteArray} (h : 2 < (splitF s ⟨#[47]⟩).length) : parseRatF s = ((false, [], []), false) := pr_no fun h1 => by
  have h2 := count_rat (decide ((ratCand s).1 < 0)) (toL (ratCand s).1.natAbs) (ratCand s).2.1
  rw [h1.2.2] at h2
  have h3 := parts_count (s := s) (c := 47) s.size 0 0 rfl (Nat.zero_le _)
  rw [List.drop_zero] at h3
  unfold splitF at h
  omega
theorem pr_len (s : ByteArray) : (parseRatF s).1.2.1.length ≤ 60 ∧ (parseRatF s).1.2.2.length ≤ 60 := by
  unfold parseRatF
  split
  · rename_i h
    have h1 := h.2.1
    unfold ratOkB at h1
    rw [Bool.and_eq_true, Bool.and_eq_true] at h1
    have h2 := h1.1
    unfold bigOk at h2
    rw [Bool.and_eq_true] at h2
    exact ⟨(okB_iff.1 h2.1).1, (okB_iff.1 h1.2.1).1⟩
  · exact ⟨Nat.zero_le _, Nat.zero_le _⟩
/-- What is written of a fraction that is none is empty, and only that. -/
theorem fmtRat_empty {s : Bool} {xs ys : List Int} : fmtRatF s xs ys = ⟨#[]⟩ ↔ ratOkB s xs ys = false := by
  constructor
  · intro h
    cases hx : ratOkB s xs ys with
    | false => rfl
    | true =>
      exfalso
      have h1 : bigOk s xs = true := by
        unfold ratOkB at hx
        rw [Bool.and_eq_true] at hx
        exact hx.1
      have h2 : okB xs = true := by
        unfold bigOk at h1
        rw [Bool.and_eq_true] at h1
        exact h1.1
      have h3 : 0 < (fmtNatF xs).size := by
        unfold fmtNatF
        rw [if_pos h2]
        unfold decF
        rw [bytes_size]
        exact dec_ne _
      have h4 : 0 < (fmtBigF s xs).size := by
        unfold fmtBigF
        rw [if_pos h1]
        split
        · rw [ByteArray.size_append]; omega
        · exact h3
      have h5 : (fmtRatF s xs ys).size = 0 := by rw [h]; rfl
      unfold fmtRatF at h5
      rw [if_pos hx] at h5
      split at h5
      · omega
      · rw [ByteArray.size_append] at h5; omega
  · exact fmtRat_no
end Go.Proofs.YticekjagmcphbaaDoor
