/-
  Contracts: PadZeros of both packages. Written by an AI agent.
-/
import Derived.Test.YticekjagmcphbaaDoorShelf
import Derived.Test.YticekjagmcphbaaDoorDec
import Derived.Lib.Repeat
namespace Go.Proofs.YticekjagmcphbaaDoor
open Go.RowKit

/-- The length of a string's value. -/
def strLen : Value → Nat
  | .string b => b.size
  | _ => 0
/-- Zeros ahead of s up to n places (none where n is over 2000). -/
def padF (s : ByteArray) (n : Int) : ByteArray := if 2000 < n then s else ⟨(padL n.toNat s.data.toList).toArray⟩
theorem padL_zero {n : Nat} {l : List UInt8} (h : n ≤ l.length) : padL n l = l := by unfold padL; rw [show n - l.length = 0 by omega]; rfl
theorem padL_more {n : Nat} {l : List UInt8} (h : l.length < n) : padL n (48 :: l) = padL n l := by
  unfold padL
  rw [List.length_cons, show n - l.length = (n - (l.length + 1)) + 1 by omega, List.replicate_succ', List.append_assoc]
  rfl
theorem pad_big {s : ByteArray} {n : Int} (h : 2000 < n) : padF s n = s := if_pos h
theorem pad_no {s : ByteArray} {n : Int} (h : n ≤ (s.size : Int)) : padF s n = s := by
  unfold padF
  split
  · rfl
  · rw [padL_zero (by rw [list_size]; omega)]
theorem repeat_zero (c : Nat) : Lib.repeatL [48] c = List.replicate c 48 := by
  induction c with
  | zero => rfl
  | succ c ih => rw [Lib.repeatL, ih, List.replicate_succ]; rfl
theorem pad_yes {s : ByteArray} {c : Nat} (h : ¬ 2000 < (c : Int) + (s.size : Int)) : padF s ((c : Int) + (s.size : Int)) = ⟨(Lib.repeatL [48] c).toArray⟩ ++ s := by
  unfold padF
  rw [if_neg h, repeat_zero]
  apply ByteArray.ext
  unfold padL
  rw [show ((c : Int) + (s.size : Int)).toNat - s.data.toList.length = c by rw [list_size]; omega]
  simp

set_option maxHeartbeats 1000000 in
theorem impl_PadZeros (s : ByteArray) (n : Int) (w : World) (hs : s.size ≤ 1048576) (h0 : -9223372036854775808 ≤ n) (h1 : n ≤ 9223372036854775807) :
    Calls Tryd.prog 58 #[.string s, .int .i64 n] w fun e w' => e = .returned (.string (padF s n)) ∧ Below w.heap.size w w' := by
  by_cases hb : 2000 < n
  · have HR := Lib.hid (pad_big (s := s) hb)
    go_enter Tryd.func58, Tryd.ntmps58
    go_wp2
    go_ret
    exact ⟨by rw [HR.out]; rfl, Below.refl _ _⟩
  by_cases hl : n ≤ (s.size : Int)
  · have HR := Lib.hid (pad_no hl)
    go_enter Tryd.func58, Tryd.ntmps58
    go_wp2
    go_ret
    exact ⟨by rw [HR.out]; rfl, Below.refl _ _⟩
  obtain ⟨c, hc⟩ : ∃ c : Nat, n = (c : Int) + (s.size : Int) := ⟨(n - s.size).toNat, by omega⟩
  subst hc
  have HR := Lib.hid (pad_yes hb)
  have hc1 : (c : Int) ≤ 2000 := by omega
  have hc0 : ¬ ((c : Int) ≤ 0) := by omega
  have HC := Lib.hid (Tryd.strings_Repeat ⟨#[48]⟩ c w (by omega) (by show 1 * c ≤ _; omega))
  have hsz : (⟨(Lib.repeatL [48] c).toArray⟩ : ByteArray).size = c := by
    show (Lib.repeatL [48] c).toArray.size = c
    rw [List.size_toArray, Lib.repeatL_length]
    simp
  obtain ⟨R, hR⟩ : ∃ R : ByteArray, R = ⟨(Lib.repeatL [48] c).toArray⟩ := ⟨_, rfl⟩
  rw [← hR] at hsz HR
  have HRR := Lib.hid hR
  clear hR
  go_enter Tryd.func58, Tryd.ntmps58
  go_wp2_with fail
  refine HC.out.mono ?_
  rintro e w1 ⟨rfl, b1⟩
  rw [show (⟨(Lib.repeatL (⟨#[48]⟩ : ByteArray).data.toList c).toArray⟩ : ByteArray) = R from HRR.out.symm]
  go_wp2
  go_ret
  exact ⟨by rw [HR.out]; rfl, b1⟩
set_option maxHeartbeats 1000000 in
theorem spec_PadZeros (s : ByteArray) (n : Int) (w : World) (hs : s.size ≤ 1048576) (h0 : -9223372036854775808 ≤ n) (h1 : n ≤ 9223372036854775807) :
    Calls Tryd.prog 56 #[.string s, .int .i64 n] w fun e w' => e = .returned (.string (padF s n)) ∧ Below w.heap.size w w' := by
  by_cases hb : 2000 < n
  · have HR := Lib.hid (pad_big (s := s) hb)
    go_enter Tryd.func56, Tryd.ntmps56
    go_wp2
    go_ret
    exact ⟨by rw [HR.out]; rfl, Below.refl _ _⟩
  have HR : Hid (padF s n = ⟨(padL n.toNat s.data.toList).toArray⟩) := Lib.hid (if_neg hb)
  have hn : n ≤ 2000 := by omega
  clear hb
  go_enter Tryd.func56, Tryd.ntmps56
  go_wp2
  go_loop [0] (fun v => ∃ b : ByteArray, v = .string b ∧ b.size ≤ 1048576 ∧ padL n.toNat b.data.toList = padL n.toNat s.data.toList) (fun v => 2000 - (strLen v))
  case atStart => exact ⟨s, rfl, hs, rfl⟩
  case round =>
    obtain ⟨b, rfl, hbs, hp⟩ := hrel
    have HP := Lib.hid hp
    clear hp
    by_cases hlt : (b.size : Int) < n
    · have HS : Hid ((⟨#[48]⟩ ++ b : ByteArray).data.toList = 48 :: b.data.toList) := Lib.hid (by simp)
      have HZ : Hid ((⟨#[48]⟩ ++ b : ByteArray).size = b.size + 1) := Lib.hid (by have h9 := congrArg List.length HS.out; rw [list_size, List.length_cons, list_size] at h9; exact h9)
      have hbi : (b.size : Int) ≤ 1048576 := by omega
      go_wp2
      go_round
      case rel => exact ⟨_, rfl, by rw [HZ.out]; omega, by rw [HS.out, padL_more (by rw [list_size]; omega), HP.out]⟩
      case measure =>
        show 2000 - (⟨#[48]⟩ ++ b : ByteArray).size < 2000 - b.size
        rw [HZ.out]
        omega
    · have HE : Hid (b = padF s n) := Lib.hid (by
        rw [HR.out, ← HP.out, padL_zero (by rw [list_size]; omega)])
      go_wp2
      go_ret
      exact ⟨by rw [← HE.out]; rfl, Below.refl _ _⟩
end Go.Proofs.YticekjagmcphbaaDoor
