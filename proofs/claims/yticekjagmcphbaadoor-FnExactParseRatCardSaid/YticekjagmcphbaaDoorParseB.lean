/-
  Contracts: ParseBigInt of both packages. Written by an AI agent.
-/
import Derived.Test.YticekjagmcphbaaDoorParse
import Derived.Test.YticekjagmcphbaaDoorBigM
namespace Go.Proofs.YticekjagmcphbaaDoor
open Go.RowKit

/-- Does s begin with a minus sign? -/
def minusB (s : ByteArray) : Bool := decide (s.data.toList.head? = some 45)
/-- What stands behind the sign. -/
def behindB (s : ByteArray) : ByteArray := if minusB s = true then s.extract 1 s.size else s
/-- What ParseBigInt answers. -/
def parseBigF (s : ByteArray) : Int × Bool :=
  if parseOk (behindB s) && !(minusB s && decide (numD (behindB s).data.toList = 0)) then (bigZ (minusB s) (numD (behindB s).data.toList), true) else (0, false)
theorem num_lt60 {s : ByteArray} (h : parseOk s = true) : numD s.data.toList < pw 60 := by
  have h1 := parse_len s
  rw [parse_yes h] at h1
  exact toL_len_le.1 h1
theorem bigZ_natAbs (b : Bool) (m : Nat) : (bigZ b m).natAbs = m := by
  unfold bigZ
  split <;> omega
theorem parseBig_len (s : ByteArray) : (toL (parseBigF s).1.natAbs).length ≤ 2000000 := by
  unfold parseBigF
  split
  · rename_i h
    rw [Bool.and_eq_true] at h
    rw [show ∀ x : Int × Bool, x.1 = x.1 from fun _ => rfl]
    show (toL (bigZ (minusB s) (numD (behindB s).data.toList)).natAbs).length ≤ 2000000
    rw [bigZ_natAbs]
    exact Nat.le_trans (toL_len_lt (num_lt60 h.1)) (by omega)
  · show (toL (0 : Int).natAbs).length ≤ 2000000
    rw [show (0 : Int).natAbs = 0 from rfl, toL_zero]
    simp
/-- A big int and a bool are handed back. -/
def RetZB (e : TypeId) (p : Int × Bool) (w : World) (en : Ending) (w' : World) : Prop :=
  ∃ A n c, en = .returned (.tuple #[.agg #[.bool (decide (p.1 < 0)), .slice A n c], .bool p.2]) ∧ Own w' w.heap.size e (.slice A n c) (toL p.1.natAbs) ∧ Below w.heap.size w w'
theorem retzb_no {e : TypeId} {p : Int × Bool} {w w' : World} (h : p = (0, false)) (b : Below w.heap.size w w') : RetZB e p w (.returned (.tuple #[.agg #[.bool false, .slice none 0 0], .bool false])) w' := by
  subst h
  refine ⟨none, 0, 0, rfl, ?_, b⟩
  rw [show ((0 : Int), false).1.natAbs = 0 from rfl, toL_zero]
  exact Own.nil _ _ _
theorem retzb_yes {e : TypeId} {p : Int × Bool} {z : Int} {u : Bool} {A : Option Addr} {n c : Nat} {w w' : World} (h : p = (z, true)) (hu : u = decide (z < 0)) (o : Own w' w.heap.size e (.slice A n c) (toL z.natAbs)) (b : Below w.heap.size w w') :
    RetZB e p w (.returned (.tuple #[.agg #[.bool u, .slice A n c], .bool true])) w' := by
  subst h hu
  exact ⟨A, n, c, rfl, o, b⟩
theorem pb_bad {s : ByteArray} (h : parseOk (behindB s) = false) : parseBigF s = (0, false) := by unfold parseBigF; rw [h]; rfl
theorem pb_zero {s : ByteArray} (h : minusB s = true) (h0 : numD (behindB s).data.toList = 0) : parseBigF s = (0, false) := by
  unfold parseBigF
  rw [h, h0]
  simp
theorem pb_good {s : ByteArray} (h : parseOk (behindB s) = true) (h0 : minusB s = true → numD (behindB s).data.toList ≠ 0) : parseBigF s = (bigZ (minusB s) (numD (behindB s).data.toList), true) := by
  unfold parseBigF
  rw [if_pos]
  rw [h, Bool.true_and, Bool.not_eq_true', Bool.and_eq_false_iff]
  cases hm : minusB s with
  | false => exact .inl rfl
  | true => exact .inr (decide_eq_false (h0 hm))
theorem parse_snd {s : ByteArray} : (parseNatF s).2 = parseOk s := by
  unfold parseNatF
  cases h : parseOk s <;> simp
theorem minus_none {s : ByteArray} (h : ¬ 0 < s.size) : minusB s = false := by
  refine decide_eq_false ?_
  rw [List.head?_eq_none_iff.2 (List.eq_nil_of_length_eq_zero (by rw [list_size]; omega))]
  simp
theorem minus_of {s : ByteArray} (h : 0 < s.size) : minusB s = ((s[0].toNat : Int) == 45) := by
  unfold minusB
  rw [head_of h]
  by_cases h1 : s[0] = 45
  · rw [h1]
    rfl
  · rw [decide_eq_false (by simpa using h1)]
    symm
    rw [beq_eq_false_iff_ne]
    intro h2
    exact h1 (UInt8.toNat_inj.1 (by rw [show (45 : UInt8).toNat = 45 from rfl]; omega))

set_option maxHeartbeats 4000000 in
theorem impl_ParseBigInt (s : ByteArray) (w : World) (hs : s.size ≤ 1048576) :
    Calls Tryd.prog 51 #[.string s] w (RetZB 3 (parseBigF s) w) := by
  have hcs : (∃ h : 0 < s.size, ((s[0].toNat : Int) == 45) = true) ∨ ((∃ h : 0 < s.size, ((s[0].toNat : Int) == 45) = false) ∨ ¬ 0 < s.size) := by
    by_cases h : 0 < s.size
    · cases h1 : ((s[0].toNat : Int) == 45)
      · exact .inr (.inl ⟨h, h1⟩)
      · exact .inl ⟨h, h1⟩
    · exact .inr (.inr h)
  rcases hcs with ⟨hp, h45⟩ | hcs
  · have hm : minusB s = true := by rw [minus_of hp, h45]
    have HBE : Hid (behindB s = s.extract 1 s.size) := Lib.hid (by unfold behindB; rw [if_pos hm])
    have HM := Lib.hid hm
    have HSZ : Hid ((s.extract 1 s.size).size ≤ maxLen) := Lib.hid (by rw [ByteArray.size_extract]; unfold maxLen; omega)
    clear hm
    cases hok : parseOk (s.extract 1 s.size) with
    | false =>
      have HR := Lib.hid (pb_bad (s := s) (by rw [HBE.out]; exact hok))
      have HF := Lib.hid (parse_no hok)
      clear hok
      go_enter Tryd.func51, Tryd.ntmps51
      go_wp2_with fail
      (with_reducible refine (impl_ParseNat _ _ HSZ.out).mono ?_); rintro e w1 ⟨r1, rfl, o1, b1⟩; obtain ⟨hc1, hf1⟩ := bxcell b1; have q1_0 := fun o => hc1 (w.heap.size) o (by first | omega | (simp; done) | (simp; omega)); have f1_0 := fun o => hf1 (w.heap.size) o (by first | omega | (simp; done) | (simp; omega)); have hz1 := b1.size; (try simp at hz1); have z1_0 : w.heap.size < w1.heap.size := (by omega); have n1_0 := Nat.ne_of_lt z1_0; have m1_0 := (Nat.ne_of_lt z1_0).symm
      rw [HF.out] at o1 ⊢
      have HO := Lib.hid o1
      clear o1
      go_wp2
      exact bodyPost_ret (v := .tuple #[.agg #[.bool false, .slice none 0 0], .bool false]) (by simp [results, Tryd.results51, go_sem, *]) rfl (retzb_no HR.out (by repeat' (first | (with_reducible exact Below.refl _ _) | (with_reducible refine Below.alloc ?_ ?_ _) | (with_reducible refine Below.setCell ?_ ?_ _) | (with_reducible refine below_drewN ?_ _) | (with_reducible refine Below.drew ?_) | (with_reducible refine below_step (by assumption) ?_ ?_) | omega | (simp; done) | (simp; omega))))
    | true =>
      have HF := Lib.hid (parse_yes hok)
      have HL := Lib.hid (num_lt60 hok)
      by_cases h0 : numD (s.extract 1 s.size).data.toList = 0
      · have HR := Lib.hid (pb_zero (s := s) HM.out (by rw [HBE.out]; exact h0))
        have HZ := Lib.hid h0
        clear hok h0
        go_enter Tryd.func51, Tryd.ntmps51
        go_wp2_with fail
        (with_reducible refine (impl_ParseNat _ _ HSZ.out).mono ?_); rintro e w1 ⟨r1, rfl, o1, b1⟩; obtain ⟨hc1, hf1⟩ := bxcell b1; have q1_0 := fun o => hc1 (w.heap.size) o (by first | omega | (simp; done) | (simp; omega)); have f1_0 := fun o => hf1 (w.heap.size) o (by first | omega | (simp; done) | (simp; omega)); have hz1 := b1.size; (try simp at hz1); have z1_0 : w.heap.size < w1.heap.size := (by omega); have n1_0 := Nat.ne_of_lt z1_0; have m1_0 := (Nat.ne_of_lt z1_0).symm
        rw [HF.out] at o1 ⊢
        have o1' := o1
        rw [show (toL (numD (s.extract 1 s.size).data.toList), true).1 = [] by rw [HZ.out, toL_zero]] at o1'
        obtain ⟨A, c, rfl, f1, f2, f3⟩ := o1'.form
        have HO := Lib.hid o1
        clear o1 o1' f1 f2 f3
        go_wp2
        exact bodyPost_ret (v := .tuple #[.agg #[.bool false, .slice none 0 0], .bool false]) (by simp [results, Tryd.results51, go_sem, *]) rfl (retzb_no HR.out (by repeat' (first | (with_reducible exact Below.refl _ _) | (with_reducible refine Below.alloc ?_ ?_ _) | (with_reducible refine Below.setCell ?_ ?_ _) | (with_reducible refine below_drewN ?_ _) | (with_reducible refine Below.drew ?_) | (with_reducible refine below_step (by assumption) ?_ ?_) | omega | (simp; done) | (simp; omega))))
      have HR := Lib.hid (pb_good (s := s) (by rw [HBE.out]; exact hok) (fun _ => by rw [HBE.out]; exact h0))
      have HNG := Lib.hid (bigZ_neg (s := true) (Nat.pos_of_ne_zero h0))
      have hlz : (((toL (numD (s.extract 1 s.size).data.toList)).length : Int) == 0) = false := beq_eq_false_iff_ne.2 (by have h9 := toL_pos (Nat.pos_of_ne_zero h0); have h8 := congrArg List.length h9; rw [List.length_cons] at h8; omega)
      clear h0
      rw [HBE.out, HM.out] at HR
      have hlb := toL_len_lt HL.out
      generalize numD (s.extract 1 s.size).data.toList = m at *
      have HAB := Lib.hid (bigZ_abs true m)
      have HLM := Lib.hid (limZ_small (s := true) HL.out)
      have hlb2 : ((toL m).length : Int) ≤ 60 := by omega
      clear hok hlb
      go_enter Tryd.func51, Tryd.ntmps51
      go_wp2_with fail
      (with_reducible refine (impl_ParseNat _ _ HSZ.out).mono ?_); rintro e w1 ⟨r1, rfl, o1, b1⟩; obtain ⟨hc1, hf1⟩ := bxcell b1; have q1_0 := fun o => hc1 (w.heap.size) o (by first | omega | (simp; done) | (simp; omega)); have f1_0 := fun o => hf1 (w.heap.size) o (by first | omega | (simp; done) | (simp; omega)); have hz1 := b1.size; (try simp at hz1); have z1_0 : w.heap.size < w1.heap.size := (by omega); have n1_0 := Nat.ne_of_lt z1_0; have m1_0 := (Nat.ne_of_lt z1_0).symm
      rw [HF.out] at o1 ⊢
      obtain ⟨A, c, hv1, f1, f2, f3⟩ := o1.form
      have hv2 : r1 = .slice A (toL m).length c := hv1
      subst hv2
      have HO := Lib.hid (show Own w1 (w.heap.size + 1) 3 (.slice A (toL m).length c) (toL m) from (by refine Own.rebase (base := w.heap.size + 1) ?_ (by first | omega | (simp; done) | (simp; omega)); have this := o1; (try rw [List.nil_append] at this); repeat' (first | (with_reducible refine Own.far ?_ _ _ ?_) | (exact this) | (simp; done) | (simp; omega) | (simpa using this))))
      clear o1 f1 f2 f3 hv1
      first
        | (skip
           go_wp2_with fail
           (with_reducible refine (impl_bigMake true _ m (w.heap.size + 1) _ HO.out).mono ?_); rintro e w2 ⟨u2, A2, n2, c2, rfl, hu2, o2, b2⟩; obtain ⟨hc2, hf2⟩ := bxcell b2; have q2_0 := fun o => hc2 (w.heap.size) o (by first | omega | (simp; done) | (simp; omega)); have f2_0 := fun o => hf2 (w.heap.size) o (by first | omega | (simp; done) | (simp; omega)); have hz2 := b2.size; (try simp at hz2); have z2_0 : w.heap.size < w2.heap.size := (by omega); have n2_0 := Nat.ne_of_lt z2_0; have m2_0 := (Nat.ne_of_lt z2_0).symm
           rw [HLM.out] at hu2 o2
           have HO2 := Lib.hid o2
           have HU2 := Lib.hid hu2
           clear o2 hu2
           go_wp2
           exact bodyPost_ret (v := .tuple #[.agg #[.bool u2, .slice A2 n2 c2], .bool true]) (by simp [results, Tryd.results51, go_sem, *]) rfl (retzb_yes HR.out HU2.out (by refine Own.rebase (base := w.heap.size + 1) ?_ (by first | omega | (simp; done) | (simp; omega)); have this := HO2.out; (try rw [List.nil_append] at this); repeat' (first | (with_reducible refine Own.far ?_ _ _ ?_) | (exact this) | (simp; done) | (simp; omega) | (simpa using this))) (by repeat' (first | (with_reducible exact Below.refl _ _) | (with_reducible refine Below.alloc ?_ ?_ _) | (with_reducible refine Below.setCell ?_ ?_ _) | (with_reducible refine below_drewN ?_ _) | (with_reducible refine Below.drew ?_) | (with_reducible refine below_step (by assumption) ?_ ?_) | omega | (simp; done) | (simp; omega)))))
        | (fail
           go_wp2
           exact bodyPost_ret (v := .tuple #[.agg #[.bool true, .slice A (toL m).length c], .bool true]) (by simp [results, Tryd.results51, go_sem, *]) rfl (retzb_yes HR.out HNG.out.symm (by rw [HAB.out]; exact (by refine Own.rebase (base := w.heap.size + 1) ?_ (by first | omega | (simp; done) | (simp; omega)); have this := HO.out; (try rw [List.nil_append] at this); repeat' (first | (with_reducible refine Own.far ?_ _ _ ?_) | (exact this) | (simp; done) | (simp; omega) | (simpa using this)))) (by repeat' (first | (with_reducible exact Below.refl _ _) | (with_reducible refine Below.alloc ?_ ?_ _) | (with_reducible refine Below.setCell ?_ ?_ _) | (with_reducible refine below_drewN ?_ _) | (with_reducible refine Below.drew ?_) | (with_reducible refine below_step (by assumption) ?_ ?_) | omega | (simp; done) | (simp; omega)))))
  · have hm : minusB s = false := by
      rcases hcs with ⟨hp, h45⟩ | hn
      · rw [minus_of hp, h45]
      · exact minus_none hn
    have HBE : Hid (behindB s = s) := Lib.hid (by unfold behindB; rw [if_neg (by rw [hm]; simp)])
    have HM := Lib.hid hm
    have HSZ : Hid (s.size ≤ maxLen) := Lib.hid (by unfold maxLen; omega)
    clear hm
    rcases hcs with ⟨hp, h45⟩ | hn
    · cases hok : parseOk (s) with
      | false =>
        have HR := Lib.hid (pb_bad (s := s) (by rw [HBE.out]; exact hok))
        have HF := Lib.hid (parse_no hok)
        clear hok
        go_enter Tryd.func51, Tryd.ntmps51
        go_wp2_with fail
        (with_reducible refine (impl_ParseNat _ _ HSZ.out).mono ?_); rintro e w1 ⟨r1, rfl, o1, b1⟩; obtain ⟨hc1, hf1⟩ := bxcell b1; have q1_0 := fun o => hc1 (w.heap.size) o (by first | omega | (simp; done) | (simp; omega)); have f1_0 := fun o => hf1 (w.heap.size) o (by first | omega | (simp; done) | (simp; omega)); have hz1 := b1.size; (try simp at hz1); have z1_0 : w.heap.size < w1.heap.size := (by omega); have n1_0 := Nat.ne_of_lt z1_0; have m1_0 := (Nat.ne_of_lt z1_0).symm
        rw [HF.out] at o1 ⊢
        have HO := Lib.hid o1
        clear o1
        go_wp2
        exact bodyPost_ret (v := .tuple #[.agg #[.bool false, .slice none 0 0], .bool false]) (by simp [results, Tryd.results51, go_sem, *]) rfl (retzb_no HR.out (by repeat' (first | (with_reducible exact Below.refl _ _) | (with_reducible refine Below.alloc ?_ ?_ _) | (with_reducible refine Below.setCell ?_ ?_ _) | (with_reducible refine below_drewN ?_ _) | (with_reducible refine Below.drew ?_) | (with_reducible refine below_step (by assumption) ?_ ?_) | omega | (simp; done) | (simp; omega))))
      | true =>
        have HF := Lib.hid (parse_yes hok)
        have HL := Lib.hid (num_lt60 hok)
        have HR := Lib.hid (pb_good (s := s) (by rw [HBE.out]; exact hok) (fun h => by rw [HM.out] at h; cases h))
        have HNG := Lib.hid (show decide (bigZ false (numD (s).data.toList) < 0) = false by simp [bigZ])
        rw [HBE.out, HM.out] at HR
        have hlb := toL_len_lt HL.out
        generalize numD (s).data.toList = m at *
        have HAB := Lib.hid (bigZ_abs false m)
        have HLM := Lib.hid (limZ_small (s := false) HL.out)
        have hlb2 : ((toL m).length : Int) ≤ 60 := by omega
        clear hok hlb
        go_enter Tryd.func51, Tryd.ntmps51
        go_wp2_with fail
        (with_reducible refine (impl_ParseNat _ _ HSZ.out).mono ?_); rintro e w1 ⟨r1, rfl, o1, b1⟩; obtain ⟨hc1, hf1⟩ := bxcell b1; have q1_0 := fun o => hc1 (w.heap.size) o (by first | omega | (simp; done) | (simp; omega)); have f1_0 := fun o => hf1 (w.heap.size) o (by first | omega | (simp; done) | (simp; omega)); have hz1 := b1.size; (try simp at hz1); have z1_0 : w.heap.size < w1.heap.size := (by omega); have n1_0 := Nat.ne_of_lt z1_0; have m1_0 := (Nat.ne_of_lt z1_0).symm
        rw [HF.out] at o1 ⊢
        obtain ⟨A, c, hv1, f1, f2, f3⟩ := o1.form
        have hv2 : r1 = .slice A (toL m).length c := hv1
        subst hv2
        have HO := Lib.hid (show Own w1 (w.heap.size + 1) 3 (.slice A (toL m).length c) (toL m) from (by refine Own.rebase (base := w.heap.size + 1) ?_ (by first | omega | (simp; done) | (simp; omega)); have this := o1; (try rw [List.nil_append] at this); repeat' (first | (with_reducible refine Own.far ?_ _ _ ?_) | (exact this) | (simp; done) | (simp; omega) | (simpa using this))))
        clear o1 f1 f2 f3 hv1
        first
          | (skip
             go_wp2_with fail
             (with_reducible refine (impl_bigMake false _ m (w.heap.size + 1) _ HO.out).mono ?_); rintro e w2 ⟨u2, A2, n2, c2, rfl, hu2, o2, b2⟩; obtain ⟨hc2, hf2⟩ := bxcell b2; have q2_0 := fun o => hc2 (w.heap.size) o (by first | omega | (simp; done) | (simp; omega)); have f2_0 := fun o => hf2 (w.heap.size) o (by first | omega | (simp; done) | (simp; omega)); have hz2 := b2.size; (try simp at hz2); have z2_0 : w.heap.size < w2.heap.size := (by omega); have n2_0 := Nat.ne_of_lt z2_0; have m2_0 := (Nat.ne_of_lt z2_0).symm
             rw [HLM.out] at hu2 o2
             have HO2 := Lib.hid o2
             have HU2 := Lib.hid hu2
             clear o2 hu2
             go_wp2
             exact bodyPost_ret (v := .tuple #[.agg #[.bool u2, .slice A2 n2 c2], .bool true]) (by simp [results, Tryd.results51, go_sem, *]) rfl (retzb_yes HR.out HU2.out (by refine Own.rebase (base := w.heap.size + 1) ?_ (by first | omega | (simp; done) | (simp; omega)); have this := HO2.out; (try rw [List.nil_append] at this); repeat' (first | (with_reducible refine Own.far ?_ _ _ ?_) | (exact this) | (simp; done) | (simp; omega) | (simpa using this))) (by repeat' (first | (with_reducible exact Below.refl _ _) | (with_reducible refine Below.alloc ?_ ?_ _) | (with_reducible refine Below.setCell ?_ ?_ _) | (with_reducible refine below_drewN ?_ _) | (with_reducible refine Below.drew ?_) | (with_reducible refine below_step (by assumption) ?_ ?_) | omega | (simp; done) | (simp; omega)))))
          | (fail
             go_wp2
             exact bodyPost_ret (v := .tuple #[.agg #[.bool false, .slice A (toL m).length c], .bool true]) (by simp [results, Tryd.results51, go_sem, *]) rfl (retzb_yes HR.out HNG.out.symm (by rw [HAB.out]; exact (by refine Own.rebase (base := w.heap.size + 1) ?_ (by first | omega | (simp; done) | (simp; omega)); have this := HO.out; (try rw [List.nil_append] at this); repeat' (first | (with_reducible refine Own.far ?_ _ _ ?_) | (exact this) | (simp; done) | (simp; omega) | (simpa using this)))) (by repeat' (first | (with_reducible exact Below.refl _ _) | (with_reducible refine Below.alloc ?_ ?_ _) | (with_reducible refine Below.setCell ?_ ?_ _) | (with_reducible refine below_drewN ?_ _) | (with_reducible refine Below.drew ?_) | (with_reducible refine below_step (by assumption) ?_ ?_) | omega | (simp; done) | (simp; omega)))))
    · cases hok : parseOk (s) with
      | false =>
        have HR := Lib.hid (pb_bad (s := s) (by rw [HBE.out]; exact hok))
        have HF := Lib.hid (parse_no hok)
        clear hok
        go_enter Tryd.func51, Tryd.ntmps51
        go_wp2_with fail
        (with_reducible refine (impl_ParseNat _ _ HSZ.out).mono ?_); rintro e w1 ⟨r1, rfl, o1, b1⟩; obtain ⟨hc1, hf1⟩ := bxcell b1; have q1_0 := fun o => hc1 (w.heap.size) o (by first | omega | (simp; done) | (simp; omega)); have f1_0 := fun o => hf1 (w.heap.size) o (by first | omega | (simp; done) | (simp; omega)); have hz1 := b1.size; (try simp at hz1); have z1_0 : w.heap.size < w1.heap.size := (by omega); have n1_0 := Nat.ne_of_lt z1_0; have m1_0 := (Nat.ne_of_lt z1_0).symm
        rw [HF.out] at o1 ⊢
        have HO := Lib.hid o1
        clear o1
        go_wp2
        exact bodyPost_ret (v := .tuple #[.agg #[.bool false, .slice none 0 0], .bool false]) (by simp [results, Tryd.results51, go_sem, *]) rfl (retzb_no HR.out (by repeat' (first | (with_reducible exact Below.refl _ _) | (with_reducible refine Below.alloc ?_ ?_ _) | (with_reducible refine Below.setCell ?_ ?_ _) | (with_reducible refine below_drewN ?_ _) | (with_reducible refine Below.drew ?_) | (with_reducible refine below_step (by assumption) ?_ ?_) | omega | (simp; done) | (simp; omega))))
      | true =>
        have HF := Lib.hid (parse_yes hok)
        have HL := Lib.hid (num_lt60 hok)
        have HR := Lib.hid (pb_good (s := s) (by rw [HBE.out]; exact hok) (fun h => by rw [HM.out] at h; cases h))
        have HNG := Lib.hid (show decide (bigZ false (numD (s).data.toList) < 0) = false by simp [bigZ])
        rw [HBE.out, HM.out] at HR
        have hlb := toL_len_lt HL.out
        generalize numD (s).data.toList = m at *
        have HAB := Lib.hid (bigZ_abs false m)
        have HLM := Lib.hid (limZ_small (s := false) HL.out)
        have hlb2 : ((toL m).length : Int) ≤ 60 := by omega
        clear hok hlb
        go_enter Tryd.func51, Tryd.ntmps51
        go_wp2_with fail
        (with_reducible refine (impl_ParseNat _ _ HSZ.out).mono ?_); rintro e w1 ⟨r1, rfl, o1, b1⟩; obtain ⟨hc1, hf1⟩ := bxcell b1; have q1_0 := fun o => hc1 (w.heap.size) o (by first | omega | (simp; done) | (simp; omega)); have f1_0 := fun o => hf1 (w.heap.size) o (by first | omega | (simp; done) | (simp; omega)); have hz1 := b1.size; (try simp at hz1); have z1_0 : w.heap.size < w1.heap.size := (by omega); have n1_0 := Nat.ne_of_lt z1_0; have m1_0 := (Nat.ne_of_lt z1_0).symm
        rw [HF.out] at o1 ⊢
        obtain ⟨A, c, hv1, f1, f2, f3⟩ := o1.form
        have hv2 : r1 = .slice A (toL m).length c := hv1
        subst hv2
        have HO := Lib.hid (show Own w1 (w.heap.size + 1) 3 (.slice A (toL m).length c) (toL m) from (by refine Own.rebase (base := w.heap.size + 1) ?_ (by first | omega | (simp; done) | (simp; omega)); have this := o1; (try rw [List.nil_append] at this); repeat' (first | (with_reducible refine Own.far ?_ _ _ ?_) | (exact this) | (simp; done) | (simp; omega) | (simpa using this))))
        clear o1 f1 f2 f3 hv1
        first
          | (skip
             go_wp2_with fail
             (with_reducible refine (impl_bigMake false _ m (w.heap.size + 1) _ HO.out).mono ?_); rintro e w2 ⟨u2, A2, n2, c2, rfl, hu2, o2, b2⟩; obtain ⟨hc2, hf2⟩ := bxcell b2; have q2_0 := fun o => hc2 (w.heap.size) o (by first | omega | (simp; done) | (simp; omega)); have f2_0 := fun o => hf2 (w.heap.size) o (by first | omega | (simp; done) | (simp; omega)); have hz2 := b2.size; (try simp at hz2); have z2_0 : w.heap.size < w2.heap.size := (by omega); have n2_0 := Nat.ne_of_lt z2_0; have m2_0 := (Nat.ne_of_lt z2_0).symm
             rw [HLM.out] at hu2 o2
             have HO2 := Lib.hid o2
             have HU2 := Lib.hid hu2
             clear o2 hu2
             go_wp2
             exact bodyPost_ret (v := .tuple #[.agg #[.bool u2, .slice A2 n2 c2], .bool true]) (by simp [results, Tryd.results51, go_sem, *]) rfl (retzb_yes HR.out HU2.out (by refine Own.rebase (base := w.heap.size + 1) ?_ (by first | omega | (simp; done) | (simp; omega)); have this := HO2.out; (try rw [List.nil_append] at this); repeat' (first | (with_reducible refine Own.far ?_ _ _ ?_) | (exact this) | (simp; done) | (simp; omega) | (simpa using this))) (by repeat' (first | (with_reducible exact Below.refl _ _) | (with_reducible refine Below.alloc ?_ ?_ _) | (with_reducible refine Below.setCell ?_ ?_ _) | (with_reducible refine below_drewN ?_ _) | (with_reducible refine Below.drew ?_) | (with_reducible refine below_step (by assumption) ?_ ?_) | omega | (simp; done) | (simp; omega)))))
          | (fail
             go_wp2
             exact bodyPost_ret (v := .tuple #[.agg #[.bool false, .slice A (toL m).length c], .bool true]) (by simp [results, Tryd.results51, go_sem, *]) rfl (retzb_yes HR.out HNG.out.symm (by rw [HAB.out]; exact (by refine Own.rebase (base := w.heap.size + 1) ?_ (by first | omega | (simp; done) | (simp; omega)); have this := HO.out; (try rw [List.nil_append] at this); repeat' (first | (with_reducible refine Own.far ?_ _ _ ?_) | (exact this) | (simp; done) | (simp; omega) | (simpa using this)))) (by repeat' (first | (with_reducible exact Below.refl _ _) | (with_reducible refine Below.alloc ?_ ?_ _) | (with_reducible refine Below.setCell ?_ ?_ _) | (with_reducible refine below_drewN ?_ _) | (with_reducible refine Below.drew ?_) | (with_reducible refine below_step (by assumption) ?_ ?_) | omega | (simp; done) | (simp; omega)))))

set_option maxHeartbeats 4000000 in
theorem spec_ParseBigInt (s : ByteArray) (w : World) (hs : s.size ≤ 1048576) :
    Calls Tryd.prog 68 #[.string s] w (RetZB 3 (parseBigF s) w) := by
  have hcs : (∃ h : 0 < s.size, ((s[0].toNat : Int) == 45) = true) ∨ ((∃ h : 0 < s.size, ((s[0].toNat : Int) == 45) = false) ∨ ¬ 0 < s.size) := by
    by_cases h : 0 < s.size
    · cases h1 : ((s[0].toNat : Int) == 45)
      · exact .inr (.inl ⟨h, h1⟩)
      · exact .inl ⟨h, h1⟩
    · exact .inr (.inr h)
  rcases hcs with ⟨hp, h45⟩ | hcs
  · have hm : minusB s = true := by rw [minus_of hp, h45]
    have HBE : Hid (behindB s = s.extract 1 s.size) := Lib.hid (by unfold behindB; rw [if_pos hm])
    have HM := Lib.hid hm
    have HSZ : Hid ((s.extract 1 s.size).size ≤ maxLen) := Lib.hid (by rw [ByteArray.size_extract]; unfold maxLen; omega)
    clear hm
    cases hok : parseOk (s.extract 1 s.size) with
    | false =>
      have HR := Lib.hid (pb_bad (s := s) (by rw [HBE.out]; exact hok))
      have HF := Lib.hid (parse_no hok)
      clear hok
      go_enter Tryd.func68, Tryd.ntmps68
      go_wp2_with fail
      (with_reducible refine (spec_ParseNat _ _ HSZ.out).mono ?_); rintro e w1 ⟨r1, rfl, o1, b1⟩; obtain ⟨hc1, hf1⟩ := bxcell b1; have q1_0 := fun o => hc1 (w.heap.size) o (by first | omega | (simp; done) | (simp; omega)); have f1_0 := fun o => hf1 (w.heap.size) o (by first | omega | (simp; done) | (simp; omega)); have hz1 := b1.size; (try simp at hz1); have z1_0 : w.heap.size < w1.heap.size := (by omega); have n1_0 := Nat.ne_of_lt z1_0; have m1_0 := (Nat.ne_of_lt z1_0).symm
      rw [HF.out] at o1 ⊢
      have HO := Lib.hid o1
      clear o1
      go_wp2
      exact bodyPost_ret (v := .tuple #[.agg #[.bool false, .slice none 0 0], .bool false]) (by simp [results, Tryd.results68, go_sem, *]) rfl (retzb_no HR.out (by repeat' (first | (with_reducible exact Below.refl _ _) | (with_reducible refine Below.alloc ?_ ?_ _) | (with_reducible refine Below.setCell ?_ ?_ _) | (with_reducible refine below_drewN ?_ _) | (with_reducible refine Below.drew ?_) | (with_reducible refine below_step (by assumption) ?_ ?_) | omega | (simp; done) | (simp; omega))))
    | true =>
      have HF := Lib.hid (parse_yes hok)
      have HL := Lib.hid (num_lt60 hok)
      by_cases h0 : numD (s.extract 1 s.size).data.toList = 0
      · have HR := Lib.hid (pb_zero (s := s) HM.out (by rw [HBE.out]; exact h0))
        have HZ := Lib.hid h0
        clear hok h0
        go_enter Tryd.func68, Tryd.ntmps68
        go_wp2_with fail
        (with_reducible refine (spec_ParseNat _ _ HSZ.out).mono ?_); rintro e w1 ⟨r1, rfl, o1, b1⟩; obtain ⟨hc1, hf1⟩ := bxcell b1; have q1_0 := fun o => hc1 (w.heap.size) o (by first | omega | (simp; done) | (simp; omega)); have f1_0 := fun o => hf1 (w.heap.size) o (by first | omega | (simp; done) | (simp; omega)); have hz1 := b1.size; (try simp at hz1); have z1_0 : w.heap.size < w1.heap.size := (by omega); have n1_0 := Nat.ne_of_lt z1_0; have m1_0 := (Nat.ne_of_lt z1_0).symm
        rw [HF.out] at o1 ⊢
        have o1' := o1
        rw [show (toL (numD (s.extract 1 s.size).data.toList), true).1 = [] by rw [HZ.out, toL_zero]] at o1'
        obtain ⟨A, c, rfl, f1, f2, f3⟩ := o1'.form
        have HO := Lib.hid o1
        clear o1 o1' f1 f2 f3
        go_wp2
        exact bodyPost_ret (v := .tuple #[.agg #[.bool false, .slice none 0 0], .bool false]) (by simp [results, Tryd.results68, go_sem, *]) rfl (retzb_no HR.out (by repeat' (first | (with_reducible exact Below.refl _ _) | (with_reducible refine Below.alloc ?_ ?_ _) | (with_reducible refine Below.setCell ?_ ?_ _) | (with_reducible refine below_drewN ?_ _) | (with_reducible refine Below.drew ?_) | (with_reducible refine below_step (by assumption) ?_ ?_) | omega | (simp; done) | (simp; omega))))
      have HR := Lib.hid (pb_good (s := s) (by rw [HBE.out]; exact hok) (fun _ => by rw [HBE.out]; exact h0))
      have HNG := Lib.hid (bigZ_neg (s := true) (Nat.pos_of_ne_zero h0))
      have hlz : (((toL (numD (s.extract 1 s.size).data.toList)).length : Int) == 0) = false := beq_eq_false_iff_ne.2 (by have h9 := toL_pos (Nat.pos_of_ne_zero h0); have h8 := congrArg List.length h9; rw [List.length_cons] at h8; omega)
      clear h0
      rw [HBE.out, HM.out] at HR
      have hlb := toL_len_lt HL.out
      generalize numD (s.extract 1 s.size).data.toList = m at *
      have HAB := Lib.hid (bigZ_abs true m)
      have HLM := Lib.hid (limZ_small (s := true) HL.out)
      have hlb2 : ((toL m).length : Int) ≤ 60 := by omega
      clear hok hlb
      go_enter Tryd.func68, Tryd.ntmps68
      go_wp2_with fail
      (with_reducible refine (spec_ParseNat _ _ HSZ.out).mono ?_); rintro e w1 ⟨r1, rfl, o1, b1⟩; obtain ⟨hc1, hf1⟩ := bxcell b1; have q1_0 := fun o => hc1 (w.heap.size) o (by first | omega | (simp; done) | (simp; omega)); have f1_0 := fun o => hf1 (w.heap.size) o (by first | omega | (simp; done) | (simp; omega)); have hz1 := b1.size; (try simp at hz1); have z1_0 : w.heap.size < w1.heap.size := (by omega); have n1_0 := Nat.ne_of_lt z1_0; have m1_0 := (Nat.ne_of_lt z1_0).symm
      rw [HF.out] at o1 ⊢
      obtain ⟨A, c, hv1, f1, f2, f3⟩ := o1.form
      have hv2 : r1 = .slice A (toL m).length c := hv1
      subst hv2
      have HO := Lib.hid (show Own w1 (w.heap.size + 1) 3 (.slice A (toL m).length c) (toL m) from (by refine Own.rebase (base := w.heap.size + 1) ?_ (by first | omega | (simp; done) | (simp; omega)); have this := o1; (try rw [List.nil_append] at this); repeat' (first | (with_reducible refine Own.far ?_ _ _ ?_) | (exact this) | (simp; done) | (simp; omega) | (simpa using this))))
      clear o1 f1 f2 f3 hv1
      first
        | (fail
           go_wp2_with fail
           (with_reducible refine (impl_bigMake true _ m (w.heap.size + 1) _ HO.out).mono ?_); rintro e w2 ⟨u2, A2, n2, c2, rfl, hu2, o2, b2⟩; obtain ⟨hc2, hf2⟩ := bxcell b2; have q2_0 := fun o => hc2 (w.heap.size) o (by first | omega | (simp; done) | (simp; omega)); have f2_0 := fun o => hf2 (w.heap.size) o (by first | omega | (simp; done) | (simp; omega)); have hz2 := b2.size; (try simp at hz2); have z2_0 : w.heap.size < w2.heap.size := (by omega); have n2_0 := Nat.ne_of_lt z2_0; have m2_0 := (Nat.ne_of_lt z2_0).symm
           rw [HLM.out] at hu2 o2
           have HO2 := Lib.hid o2
           have HU2 := Lib.hid hu2
           clear o2 hu2
           go_wp2
           exact bodyPost_ret (v := .tuple #[.agg #[.bool u2, .slice A2 n2 c2], .bool true]) (by simp [results, Tryd.results68, go_sem, *]) rfl (retzb_yes HR.out HU2.out (by refine Own.rebase (base := w.heap.size + 1) ?_ (by first | omega | (simp; done) | (simp; omega)); have this := HO2.out; (try rw [List.nil_append] at this); repeat' (first | (with_reducible refine Own.far ?_ _ _ ?_) | (exact this) | (simp; done) | (simp; omega) | (simpa using this))) (by repeat' (first | (with_reducible exact Below.refl _ _) | (with_reducible refine Below.alloc ?_ ?_ _) | (with_reducible refine Below.setCell ?_ ?_ _) | (with_reducible refine below_drewN ?_ _) | (with_reducible refine Below.drew ?_) | (with_reducible refine below_step (by assumption) ?_ ?_) | omega | (simp; done) | (simp; omega)))))
        | (skip
           go_wp2
           exact bodyPost_ret (v := .tuple #[.agg #[.bool true, .slice A (toL m).length c], .bool true]) (by simp [results, Tryd.results68, go_sem, *]) rfl (retzb_yes HR.out HNG.out.symm (by rw [HAB.out]; exact (by refine Own.rebase (base := w.heap.size + 1) ?_ (by first | omega | (simp; done) | (simp; omega)); have this := HO.out; (try rw [List.nil_append] at this); repeat' (first | (with_reducible refine Own.far ?_ _ _ ?_) | (exact this) | (simp; done) | (simp; omega) | (simpa using this)))) (by repeat' (first | (with_reducible exact Below.refl _ _) | (with_reducible refine Below.alloc ?_ ?_ _) | (with_reducible refine Below.setCell ?_ ?_ _) | (with_reducible refine below_drewN ?_ _) | (with_reducible refine Below.drew ?_) | (with_reducible refine below_step (by assumption) ?_ ?_) | omega | (simp; done) | (simp; omega)))))
  · have hm : minusB s = false := by
      rcases hcs with ⟨hp, h45⟩ | hn
      · rw [minus_of hp, h45]
      · exact minus_none hn
    have HBE : Hid (behindB s = s) := Lib.hid (by unfold behindB; rw [if_neg (by rw [hm]; simp)])
    have HM := Lib.hid hm
    have HSZ : Hid (s.size ≤ maxLen) := Lib.hid (by unfold maxLen; omega)
    clear hm
    rcases hcs with ⟨hp, h45⟩ | hn
    · cases hok : parseOk (s) with
      | false =>
        have HR := Lib.hid (pb_bad (s := s) (by rw [HBE.out]; exact hok))
        have HF := Lib.hid (parse_no hok)
        clear hok
        go_enter Tryd.func68, Tryd.ntmps68
        go_wp2_with fail
        (with_reducible refine (spec_ParseNat _ _ HSZ.out).mono ?_); rintro e w1 ⟨r1, rfl, o1, b1⟩; obtain ⟨hc1, hf1⟩ := bxcell b1; have q1_0 := fun o => hc1 (w.heap.size) o (by first | omega | (simp; done) | (simp; omega)); have f1_0 := fun o => hf1 (w.heap.size) o (by first | omega | (simp; done) | (simp; omega)); have hz1 := b1.size; (try simp at hz1); have z1_0 : w.heap.size < w1.heap.size := (by omega); have n1_0 := Nat.ne_of_lt z1_0; have m1_0 := (Nat.ne_of_lt z1_0).symm
        rw [HF.out] at o1 ⊢
        have HO := Lib.hid o1
        clear o1
        go_wp2
        exact bodyPost_ret (v := .tuple #[.agg #[.bool false, .slice none 0 0], .bool false]) (by simp [results, Tryd.results68, go_sem, *]) rfl (retzb_no HR.out (by repeat' (first | (with_reducible exact Below.refl _ _) | (with_reducible refine Below.alloc ?_ ?_ _) | (with_reducible refine Below.setCell ?_ ?_ _) | (with_reducible refine below_drewN ?_ _) | (with_reducible refine Below.drew ?_) | (with_reducible refine below_step (by assumption) ?_ ?_) | omega | (simp; done) | (simp; omega))))
      | true =>
        have HF := Lib.hid (parse_yes hok)
        have HL := Lib.hid (num_lt60 hok)
        have HR := Lib.hid (pb_good (s := s) (by rw [HBE.out]; exact hok) (fun h => by rw [HM.out] at h; cases h))
        have HNG := Lib.hid (show decide (bigZ false (numD (s).data.toList) < 0) = false by simp [bigZ])
        rw [HBE.out, HM.out] at HR
        have hlb := toL_len_lt HL.out
        generalize numD (s).data.toList = m at *
        have HAB := Lib.hid (bigZ_abs false m)
        have HLM := Lib.hid (limZ_small (s := false) HL.out)
        have hlb2 : ((toL m).length : Int) ≤ 60 := by omega
        clear hok hlb
        go_enter Tryd.func68, Tryd.ntmps68
        go_wp2_with fail
        (with_reducible refine (spec_ParseNat _ _ HSZ.out).mono ?_); rintro e w1 ⟨r1, rfl, o1, b1⟩; obtain ⟨hc1, hf1⟩ := bxcell b1; have q1_0 := fun o => hc1 (w.heap.size) o (by first | omega | (simp; done) | (simp; omega)); have f1_0 := fun o => hf1 (w.heap.size) o (by first | omega | (simp; done) | (simp; omega)); have hz1 := b1.size; (try simp at hz1); have z1_0 : w.heap.size < w1.heap.size := (by omega); have n1_0 := Nat.ne_of_lt z1_0; have m1_0 := (Nat.ne_of_lt z1_0).symm
        rw [HF.out] at o1 ⊢
        obtain ⟨A, c, hv1, f1, f2, f3⟩ := o1.form
        have hv2 : r1 = .slice A (toL m).length c := hv1
        subst hv2
        have HO := Lib.hid (show Own w1 (w.heap.size + 1) 3 (.slice A (toL m).length c) (toL m) from (by refine Own.rebase (base := w.heap.size + 1) ?_ (by first | omega | (simp; done) | (simp; omega)); have this := o1; (try rw [List.nil_append] at this); repeat' (first | (with_reducible refine Own.far ?_ _ _ ?_) | (exact this) | (simp; done) | (simp; omega) | (simpa using this))))
        clear o1 f1 f2 f3 hv1
        first
          | (fail
             go_wp2_with fail
             (with_reducible refine (impl_bigMake false _ m (w.heap.size + 1) _ HO.out).mono ?_); rintro e w2 ⟨u2, A2, n2, c2, rfl, hu2, o2, b2⟩; obtain ⟨hc2, hf2⟩ := bxcell b2; have q2_0 := fun o => hc2 (w.heap.size) o (by first | omega | (simp; done) | (simp; omega)); have f2_0 := fun o => hf2 (w.heap.size) o (by first | omega | (simp; done) | (simp; omega)); have hz2 := b2.size; (try simp at hz2); have z2_0 : w.heap.size < w2.heap.size := (by omega); have n2_0 := Nat.ne_of_lt z2_0; have m2_0 := (Nat.ne_of_lt z2_0).symm
             rw [HLM.out] at hu2 o2
             have HO2 := Lib.hid o2
             have HU2 := Lib.hid hu2
             clear o2 hu2
             go_wp2
             exact bodyPost_ret (v := .tuple #[.agg #[.bool u2, .slice A2 n2 c2], .bool true]) (by simp [results, Tryd.results68, go_sem, *]) rfl (retzb_yes HR.out HU2.out (by refine Own.rebase (base := w.heap.size + 1) ?_ (by first | omega | (simp; done) | (simp; omega)); have this := HO2.out; (try rw [List.nil_append] at this); repeat' (first | (with_reducible refine Own.far ?_ _ _ ?_) | (exact this) | (simp; done) | (simp; omega) | (simpa using this))) (by repeat' (first | (with_reducible exact Below.refl _ _) | (with_reducible refine Below.alloc ?_ ?_ _) | (with_reducible refine Below.setCell ?_ ?_ _) | (with_reducible refine below_drewN ?_ _) | (with_reducible refine Below.drew ?_) | (with_reducible refine below_step (by assumption) ?_ ?_) | omega | (simp; done) | (simp; omega)))))
          | (skip
             go_wp2
             exact bodyPost_ret (v := .tuple #[.agg #[.bool false, .slice A (toL m).length c], .bool true]) (by simp [results, Tryd.results68, go_sem, *]) rfl (retzb_yes HR.out HNG.out.symm (by rw [HAB.out]; exact (by refine Own.rebase (base := w.heap.size + 1) ?_ (by first | omega | (simp; done) | (simp; omega)); have this := HO.out; (try rw [List.nil_append] at this); repeat' (first | (with_reducible refine Own.far ?_ _ _ ?_) | (exact this) | (simp; done) | (simp; omega) | (simpa using this)))) (by repeat' (first | (with_reducible exact Below.refl _ _) | (with_reducible refine Below.alloc ?_ ?_ _) | (with_reducible refine Below.setCell ?_ ?_ _) | (with_reducible refine below_drewN ?_ _) | (with_reducible refine Below.drew ?_) | (with_reducible refine below_step (by assumption) ?_ ?_) | omega | (simp; done) | (simp; omega)))))
    · cases hok : parseOk (s) with
      | false =>
        have HR := Lib.hid (pb_bad (s := s) (by rw [HBE.out]; exact hok))
        have HF := Lib.hid (parse_no hok)
        clear hok
        go_enter Tryd.func68, Tryd.ntmps68
        go_wp2_with fail
        (with_reducible refine (spec_ParseNat _ _ HSZ.out).mono ?_); rintro e w1 ⟨r1, rfl, o1, b1⟩; obtain ⟨hc1, hf1⟩ := bxcell b1; have q1_0 := fun o => hc1 (w.heap.size) o (by first | omega | (simp; done) | (simp; omega)); have f1_0 := fun o => hf1 (w.heap.size) o (by first | omega | (simp; done) | (simp; omega)); have hz1 := b1.size; (try simp at hz1); have z1_0 : w.heap.size < w1.heap.size := (by omega); have n1_0 := Nat.ne_of_lt z1_0; have m1_0 := (Nat.ne_of_lt z1_0).symm
        rw [HF.out] at o1 ⊢
        have HO := Lib.hid o1
        clear o1
        go_wp2
        exact bodyPost_ret (v := .tuple #[.agg #[.bool false, .slice none 0 0], .bool false]) (by simp [results, Tryd.results68, go_sem, *]) rfl (retzb_no HR.out (by repeat' (first | (with_reducible exact Below.refl _ _) | (with_reducible refine Below.alloc ?_ ?_ _) | (with_reducible refine Below.setCell ?_ ?_ _) | (with_reducible refine below_drewN ?_ _) | (with_reducible refine Below.drew ?_) | (with_reducible refine below_step (by assumption) ?_ ?_) | omega | (simp; done) | (simp; omega))))
      | true =>
        have HF := Lib.hid (parse_yes hok)
        have HL := Lib.hid (num_lt60 hok)
        have HR := Lib.hid (pb_good (s := s) (by rw [HBE.out]; exact hok) (fun h => by rw [HM.out] at h; cases h))
        have HNG := Lib.hid (show decide (bigZ false (numD (s).data.toList) < 0) = false by simp [bigZ])
        rw [HBE.out, HM.out] at HR
        have hlb := toL_len_lt HL.out
        generalize numD (s).data.toList = m at *
        have HAB := Lib.hid (bigZ_abs false m)
        have HLM := Lib.hid (limZ_small (s := false) HL.out)
        have hlb2 : ((toL m).length : Int) ≤ 60 := by omega
        clear hok hlb
        go_enter Tryd.func68, Tryd.ntmps68
        go_wp2_with fail
        (with_reducible refine (spec_ParseNat _ _ HSZ.out).mono ?_); rintro e w1 ⟨r1, rfl, o1, b1⟩; obtain ⟨hc1, hf1⟩ := bxcell b1; have q1_0 := fun o => hc1 (w.heap.size) o (by first | omega | (simp; done) | (simp; omega)); have f1_0 := fun o => hf1 (w.heap.size) o (by first | omega | (simp; done) | (simp; omega)); have hz1 := b1.size; (try simp at hz1); have z1_0 : w.heap.size < w1.heap.size := (by omega); have n1_0 := Nat.ne_of_lt z1_0; have m1_0 := (Nat.ne_of_lt z1_0).symm
        rw [HF.out] at o1 ⊢
        obtain ⟨A, c, hv1, f1, f2, f3⟩ := o1.form
        have hv2 : r1 = .slice A (toL m).length c := hv1
        subst hv2
        have HO := Lib.hid (show Own w1 (w.heap.size + 1) 3 (.slice A (toL m).length c) (toL m) from (by refine Own.rebase (base := w.heap.size + 1) ?_ (by first | omega | (simp; done) | (simp; omega)); have this := o1; (try rw [List.nil_append] at this); repeat' (first | (with_reducible refine Own.far ?_ _ _ ?_) | (exact this) | (simp; done) | (simp; omega) | (simpa using this))))
        clear o1 f1 f2 f3 hv1
        first
          | (fail
             go_wp2_with fail
             (with_reducible refine (impl_bigMake false _ m (w.heap.size + 1) _ HO.out).mono ?_); rintro e w2 ⟨u2, A2, n2, c2, rfl, hu2, o2, b2⟩; obtain ⟨hc2, hf2⟩ := bxcell b2; have q2_0 := fun o => hc2 (w.heap.size) o (by first | omega | (simp; done) | (simp; omega)); have f2_0 := fun o => hf2 (w.heap.size) o (by first | omega | (simp; done) | (simp; omega)); have hz2 := b2.size; (try simp at hz2); have z2_0 : w.heap.size < w2.heap.size := (by omega); have n2_0 := Nat.ne_of_lt z2_0; have m2_0 := (Nat.ne_of_lt z2_0).symm
             rw [HLM.out] at hu2 o2
             have HO2 := Lib.hid o2
             have HU2 := Lib.hid hu2
             clear o2 hu2
             go_wp2
             exact bodyPost_ret (v := .tuple #[.agg #[.bool u2, .slice A2 n2 c2], .bool true]) (by simp [results, Tryd.results68, go_sem, *]) rfl (retzb_yes HR.out HU2.out (by refine Own.rebase (base := w.heap.size + 1) ?_ (by first | omega | (simp; done) | (simp; omega)); have this := HO2.out; (try rw [List.nil_append] at this); repeat' (first | (with_reducible refine Own.far ?_ _ _ ?_) | (exact this) | (simp; done) | (simp; omega) | (simpa using this))) (by repeat' (first | (with_reducible exact Below.refl _ _) | (with_reducible refine Below.alloc ?_ ?_ _) | (with_reducible refine Below.setCell ?_ ?_ _) | (with_reducible refine below_drewN ?_ _) | (with_reducible refine Below.drew ?_) | (with_reducible refine below_step (by assumption) ?_ ?_) | omega | (simp; done) | (simp; omega)))))
          | (skip
             go_wp2
             exact bodyPost_ret (v := .tuple #[.agg #[.bool false, .slice A (toL m).length c], .bool true]) (by simp [results, Tryd.results68, go_sem, *]) rfl (retzb_yes HR.out HNG.out.symm (by rw [HAB.out]; exact (by refine Own.rebase (base := w.heap.size + 1) ?_ (by first | omega | (simp; done) | (simp; omega)); have this := HO.out; (try rw [List.nil_append] at this); repeat' (first | (with_reducible refine Own.far ?_ _ _ ?_) | (exact this) | (simp; done) | (simp; omega) | (simpa using this)))) (by repeat' (first | (with_reducible exact Below.refl _ _) | (with_reducible refine Below.alloc ?_ ?_ _) | (with_reducible refine Below.setCell ?_ ?_ _) | (with_reducible refine below_drewN ?_ _) | (with_reducible refine Below.drew ?_) | (with_reducible refine below_step (by assumption) ?_ ?_) | omega | (simp; done) | (simp; omega)))))

end Go.Proofs.YticekjagmcphbaaDoor
