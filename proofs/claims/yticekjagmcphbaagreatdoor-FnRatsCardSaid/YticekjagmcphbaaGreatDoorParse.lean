/-
  Contracts: ParseNat of both packages. Written by an AI agent.
-/
import Derived.Test.YticekjagmcphbaaGreatDoorDec
import Derived.Test.YticekjagmcphbaaGreatDoorApp2
namespace Go.Proofs.YticekjagmcphbaaGreatDoor
open Go.RowKit

/-- What ParseNat answers. -/
def parseOk (s : ByteArray) : Bool := digitsB s && decide (s.size ≤ 540) && (decide (s.size = 1) || decide (s.data.toList.head? ≠ some 48))
def parseNatF (s : ByteArray) : List Int × Bool := if parseOk s = true then (toL (numD s.data.toList), true) else ([], false)
theorem parse_no {s : ByteArray} (h : parseOk s = false) : parseNatF s = ([], false) := by unfold parseNatF; rw [h]; rfl
theorem parse_yes {s : ByteArray} (h : parseOk s = true) : parseNatF s = (toL (numD s.data.toList), true) := by unfold parseNatF; rw [h]; rfl
theorem digits_all {s : ByteArray} (h : digitsB s = true) : s.data.toList.all digB = true ∧ 0 < s.size := by
  unfold digitsB at h
  rw [Bool.and_eq_true, decide_eq_true_iff] at h
  exact h
theorem pow10_le {a k : Nat} (h : a ≤ 9 * k) : 10 ^ a ≤ pw k := by
  unfold pw
  rw [show (1000000000 : Nat) = 10 ^ 9 by decide, ← Nat.pow_mul]
  exact Nat.pow_le_pow_right (by decide) h
theorem parse_len (s : ByteArray) : (parseNatF s).1.length ≤ 60 := by
  unfold parseNatF
  split
  · rename_i h
    unfold parseOk at h
    rw [Bool.and_eq_true, Bool.and_eq_true, decide_eq_true_iff] at h
    obtain ⟨⟨h1, h2⟩, _⟩ := h
    have h3 := numD_lt (digits_all h1).1
    rw [list_size] at h3
    exact toL_len_lt (Nat.lt_of_lt_of_le h3 (pow10_le (by omega)))
  · simp
/-- A list and a bool are handed back. -/
def RetOwnB (e : TypeId) (xs : List Int) (b : Bool) (w : World) (en : Ending) (w' : World) : Prop := ∃ r, en = .returned (.tuple #[r, .bool b]) ∧ Own w' w.heap.size e r xs ∧ Below w.heap.size w w'
theorem retob_no {e : TypeId} {p : List Int × Bool} {w w' : World} (h : p = ([], false)) (b : Below w.heap.size w w') : RetOwnB e p.1 p.2 w (.returned (.tuple #[.slice none 0 0, .bool false])) w' := by
  subst h
  exact ⟨_, rfl, Own.nil _ _ _, b⟩
theorem retob_yes {e : TypeId} {p : List Int × Bool} {xs : List Int} {r : Value} {w w' : World} (h : p = (xs, true)) (o : Own w' w.heap.size e r xs) (b : Below w.heap.size w w') : RetOwnB e p.1 p.2 w (.returned (.tuple #[r, .bool true])) w' := by
  subst h
  exact ⟨_, rfl, o, b⟩
theorem parse_bad {s : ByteArray} (h : digitsB s = false) : parseNatF s = ([], false) := parse_no (by unfold parseOk; rw [h]; rfl)
theorem parse_long {s : ByteArray} (h : 540 < s.size) : parseNatF s = ([], false) := parse_no (by unfold parseOk; rw [show decide (s.size ≤ 540) = false from decide_eq_false (by omega)]; simp)
theorem head_of {s : ByteArray} (h : 0 < s.size) : s.data.toList.head? = some s[0] := by
  rw [List.head?_eq_getElem?, byte_get h]
theorem parse_zero {s : ByteArray} (h1 : 1 < s.size) (h : s[0]'(by omega) = 48) : parseNatF s = ([], false) :=
  parse_no (by unfold parseOk; rw [show decide (s.size = 1) = false from decide_eq_false (by omega), show decide (s.data.toList.head? ≠ some 48) = false from decide_eq_false (by rw [head_of (by omega), h]; simp)]; simp)
theorem parse_good {s : ByteArray} (hd : digitsB s = true) (hl : s.size ≤ 540) (h : s.size = 1 ∨ s.data.toList.head? ≠ some 48) : parseNatF s = (toL (numD s.data.toList), true) :=
  parse_yes (by unfold parseOk; rw [hd, decide_eq_true hl]; simp only [Bool.true_and, Bool.or_eq_true, decide_eq_true_iff]; exact h)
theorem parse_done {s : ByteArray} {xs : List Int} (h : ParseAt s.data.toList 0 xs) (hne : s.data.toList.head? ≠ some 48) : xs = toL (numD s.data.toList) := by
  have h1 := h.done
  rw [← toL_of_limbs h.lim (h.top rfl hne), h1, Int.toNat_natCast]
theorem num_cast {l : List UInt8} {i : Nat} {d : UInt8} (hd : digB d = true) (f : Nat) {n : Int} (hn : n = (numD ((l.take i).drop f) : Int)) (hf : f ≤ i) (hg : l[i]? = some d) : n * 10 + ((d.toNat : Int) - 48) = (numD ((l.take (i + 1)).drop f) : Int) := by
  have h1 := digB_nat hd
  rw [seg_snoc hf hg, hn]
  omega

theorem str_zero {s : ByteArray} (h : s.toList = [48]) : s.size = 1 ∧ digitsB s = true ∧ numD s.data.toList = 0 := by
  rw [ByteArray.toList_eq] at h
  have h1 := list_size s
  rw [h] at h1
  refine ⟨by simpa using h1.symm, ?_, by rw [h]; rfl⟩
  unfold digitsB
  rw [h, ← h1]
  decide
theorem str_not_zero {s : ByteArray} (h : ¬ s.toList = [48]) (h1 : s.size = 1) : s.data.toList.head? ≠ some 48 := by
  rw [ByteArray.toList_eq] at h
  have h2 := list_size s
  rw [h1] at h2
  obtain ⟨a, ha⟩ := List.length_eq_one_iff.1 h2
  rw [ha, List.head?_cons]
  intro h3
  rw [ha, Option.some.inj h3] at h
  exact h rfl
set_option maxHeartbeats 4000000 in
theorem impl_ParseNat (s : ByteArray) (w : World) (hs : s.size ≤ maxLen) :
    Calls Tryz.prog 18 #[.string s] w (RetOwnB 3 (parseNatF s).1 (parseNatF s).2 w) := by
  have HS := Lib.hid hs
  have hsm : s.size ≤ 9223372036854775807 := by unfold maxLen at hs; omega
  clear hs
  by_cases hz : s.toList = [48]
  · have hb : (s.toList == [48]) = true := by simpa using hz
    obtain ⟨z1, z2, z3⟩ := str_zero hz
    have HR := Lib.hid (parse_good z2 (by omega) (.inl z1))
    rw [z3, toL_zero] at HR
    clear hz z1 z2 z3
    go_enter Tryz.func18, Tryz.ntmps18
    go_wp2
    go_ret2
    exact retob_yes HR.out (Own.nil _ _ _) (by repeat' (first | (with_reducible exact Below.refl _ _) | (with_reducible refine Below.alloc ?_ ?_ _) | (with_reducible refine Below.setCell ?_ ?_ _) | (with_reducible refine below_drewN ?_ _) | (with_reducible refine Below.drew ?_) | (with_reducible refine below_step (by assumption) ?_ ?_) | omega | (simp; done) | (simp; omega)))
  have hb : (s.toList == [48]) = false := by simpa using hz
  have HZ := Lib.hid hz
  clear hz
  cases hd : digitsB s with
  | false =>
    have HR := Lib.hid (parse_bad hd)
    go_enter Tryz.func18, Tryz.ntmps18
    go_wp2_with fail
    refine (impl_IsDigits s _ HS.out).mono ?_
    rintro e w' ⟨rfl, rfl⟩
    rw [hd]
    go_wp2
    go_ret2
    exact retob_no HR.out (by repeat' (first | (with_reducible exact Below.refl _ _) | (with_reducible refine Below.alloc ?_ ?_ _) | (with_reducible refine Below.setCell ?_ ?_ _) | (with_reducible refine below_drewN ?_ _) | (with_reducible refine Below.drew ?_) | (with_reducible refine below_step (by assumption) ?_ ?_) | omega | (simp; done) | (simp; omega)))
  | true =>
  have HD := Lib.hid hd
  obtain ⟨hall, hpos⟩ := digits_all hd
  have HA := Lib.hid hall
  clear hd hall
  by_cases h0 : s[0]'hpos = 48
  · have HR : Hid (parseNatF s = ([], false)) := Lib.hid (by
      by_cases h1 : 1 < s.size
      · exact parse_zero h1 h0
      · exact absurd (by rw [head_of hpos, h0]) (str_not_zero HZ.out (by omega)))
    have h48 : ((((s[0]'hpos).toNat : Int) == 48) = true) := by rw [h0]; rfl
    clear h0
    go_enter Tryz.func18, Tryz.ntmps18
    go_wp2_with fail
    refine (impl_IsDigits s _ HS.out).mono ?_
    rintro e w' ⟨rfl, rfl⟩
    rw [HD.out]
    go_wp2
    go_ret2
    exact retob_no HR.out (by repeat' (first | (with_reducible exact Below.refl _ _) | (with_reducible refine Below.alloc ?_ ?_ _) | (with_reducible refine Below.setCell ?_ ?_ _) | (with_reducible refine below_drewN ?_ _) | (with_reducible refine Below.drew ?_) | (with_reducible refine below_step (by assumption) ?_ ?_) | omega | (simp; done) | (simp; omega)))
  have h48 : ((((s[0]'hpos).toNat : Int) == 48) = false) := by
    rw [beq_eq_false_iff_ne]
    intro h2
    exact h0 (UInt8.toNat_inj.1 (by rw [show (48 : UInt8).toNat = 48 from rfl]; omega))
  have HN := Lib.hid (show s.data.toList.head? ≠ some 48 by rw [head_of hpos]; simpa using h0)
  clear h0
  by_cases hl : 540 < s.size
  · have HR := Lib.hid (parse_long hl)
    go_enter Tryz.func18, Tryz.ntmps18
    go_wp2_with fail
    refine (impl_IsDigits s _ HS.out).mono ?_
    rintro e w' ⟨rfl, rfl⟩
    rw [HD.out]
    go_wp2
    go_ret2
    exact retob_no HR.out (by repeat' (first | (with_reducible exact Below.refl _ _) | (with_reducible refine Below.alloc ?_ ?_ _) | (with_reducible refine Below.setCell ?_ ?_ _) | (with_reducible refine below_drewN ?_ _) | (with_reducible refine Below.drew ?_) | (with_reducible refine below_step (by assumption) ?_ ?_) | omega | (simp; done) | (simp; omega)))
  have hl2 : s.size ≤ 540 := by omega
  have HR := Lib.hid (parse_good HD.out hl2 (.inr HN.out))
  have HP0 := Lib.hid (ParseAt.start s.data.toList (by rw [list_size]; exact hpos))
  rw [list_size] at HP0
  go_enter Tryz.func18, Tryz.ntmps18
  go_wp2_with fail
  refine (impl_IsDigits s _ HS.out).mono ?_
  rintro e w' ⟨rfl, rfl⟩
  rw [HD.out]
  go_wp2
  go_loopw [4, 5, 6, 7] (fun l e _ _ wr => ∃ (z : Int) (xs : List Int), e = .int .i64 z ∧ -9 < z ∧ z ≤ s.size ∧ ParseAt s.data.toList z.toNat xs ∧ xs.length + z.toNat ≤ s.size ∧ Own wr w.heap.size 3 l xs ∧ Below w.heap.size w wr) (fun _ e _ _ _ => (intOf e).toNat)
  case atStart => exact ⟨_, [], rfl, by omega, by omega, HP0.out, by simp, own_empty w (Nat.le_refl _), (by repeat' (first | (with_reducible exact Below.refl _ _) | (with_reducible refine Below.alloc ?_ ?_ _) | (with_reducible refine Below.setCell ?_ ?_ _) | (with_reducible refine below_drewN ?_ _) | (with_reducible refine Below.drew ?_) | (with_reducible refine below_step (by assumption) ?_ ?_) | omega | (simp; done) | (simp; omega)))⟩
  case round =>
    obtain ⟨z, xs, rfl, hz0, hz1, hp, hlen, hown, hbl⟩ := hrel
    have HO := Lib.hid hown
    have HP := Lib.hid hp
    have hsz := hbl.size
    clear hown hp
    by_cases hz : 0 < z
    · obtain ⟨e, rfl⟩ := Int.eq_ofNat_of_zero_le (show 0 ≤ z by omega)
      rw [Int.toNat_natCast] at HP hlen
      have he : e ≤ s.size := by omega
      obtain ⟨f, hf⟩ : ∃ f, f = e - 9 := ⟨_, rfl⟩
      have hf9 : e ≤ f + 9 := by omega
      have hfe : f ≤ e := by omega
      have hcz : ((9 < (e : Int)) ∧ Hid ((e : Int) - 9 = (f : Int))) ∨ (¬ (9 < (e : Int)) ∧ Hid ((0 : Int) = (f : Int))) := by
        by_cases h9 : 9 < (e : Int)
        · exact .inl ⟨h9, Lib.hid (by omega)⟩
        · exact .inr ⟨h9, Lib.hid (by omega)⟩
      have HF := Lib.hid hf
      clear hf
      rcases hcz with ⟨ha, hb⟩ | ⟨ha, hb⟩
      all_goals
        go_wp2
        go_loopw [6, 7] (fun y i wq => ∃ (j : Nat) (n : Int), wq = wr ∧ i = .int .i64 j ∧ y = .int .i64 n ∧ f ≤ j ∧ j ≤ e ∧ n = (numD ((s.data.toList.take j).drop f) : Int)) (fun _ i _ => s.size - (intOf i).toNat)
        case atStart => exact ⟨f, 0, rfl, by rw [← hb.out], rfl, Nat.le_refl _, hfe, by rw [seg_nil]; rfl⟩
        case round =>
          obtain ⟨j, n, rfl, rfl, rfl, hj0, hj1, hn⟩ := hrel
          by_cases hjt : j < e
          · have hjs : j < s.size := by omega
            have hg := byte_get hjs
            have hdig : digB s[j] = true := by
              have h5 := List.all_eq_true.1 HA.out s[j] (List.mem_of_getElem? hg)
              exact h5
            have hst := num_cast hdig f hn hj0 hg
            have hlt := seg_lt (s := s.data.toList) (e := e) (f := f) (i := j) (by rw [list_size]; omega) (by omega) (by omega) HA.out
            have hn0 : 0 ≤ n := by rw [hn]; exact Int.natCast_nonneg _
            have hn1 : n < 1000000000 := by omega
            have hd2 := digB_nat hdig
            have HST := Lib.hid hst
            clear hst hn hlt hg hdig
            go_wp2
            go_roundw
            case rel => exact ⟨j + 1, _, by first | rfl | trivial, by go_num, rfl, by omega, by omega, by rw [← HST.out]; omega⟩
            case measure => simp [intOf]; omega
          · obtain rfl : j = e := by omega
            have HST := Lib.hid (HP.out.step (y := n) (by omega) (by rw [list_size]; exact he) HA.out (by rw [← HF.out]; exact hn))
            clear hn
            go_wp2_with (at_builtin; refine wpList_app1 _ rfl _ _ rfl Tryz.intP HO.out rfl rfl (by omega) hsz ?_; intro v' w1 hown' hb' hg'; clear hg')
            go_roundw
            case rel => exact ⟨_, _, rfl, by omega, by omega, by (first | rw [show ((j : Int) - 9).toNat = j - 9 by omega] | rw [Int.toNat_natCast]); exact HST.out, by simp; omega, by simpa using hown', hbl.trans hb'⟩
            case measure => simp [intOf]; omega
    · have HZ := Lib.hid (show z.toNat = 0 by omega)
      have HPZ := Lib.hid (show ParseAt s.data.toList 0 xs by have := HP.out; rwa [HZ.out] at this)
      have HE := Lib.hid (parse_done HPZ.out HN.out)
      go_wp2
      go_ret2
      refine retob_yes HR.out ?_ hbl
      rw [← HE.out]
      exact HO.out
end Go.Proofs.YticekjagmcphbaaGreatDoor
