/-
  Contracts: ParseInt of both packages. Written by an AI agent.
-/
import Derived.Test.YticekjagmcphbaaDoorPInt
import Derived.Test.YticekjagmcphbaaDoorFmtI
import Derived.Test.YticekjagmcphbaaDoorShelf2
import Derived.Lib.AtoiErrMem
import Derived.Test.YticekjagmcphbaaDoorToInt
namespace Go.Proofs.YticekjagmcphbaaDoor
open Go.RowKit

/-- The library's two error variables hold errors. -/
def ErrAt (x : String) (w : World) : Prop := ∃ tp p, w.var? Tryd.prog x = some #[.iface tp p]
theorem ErrAt.below {x : String} {w w' : World} (h : ErrAt x w) (hb : Below w.heap.size w w') : ErrAt x w' := by
  obtain ⟨tp, p, h⟩ := h
  refine ⟨tp, p, ?_⟩
  unfold World.var? at h ⊢
  cases hg : Tryd.prog.globalNamed x with
  | none => rw [hg] at h; simp at h
  | some g =>
    rw [hg] at h
    simp only [Option.bind_some] at h ⊢
    have hlt : g < w.heap.size := by
      rcases Nat.lt_or_ge g w.heap.size with h' | h'
      · exact h'
      · simp [Array.getElem?_eq_none h'] at h
    rw [hb.block g hlt]
    exact h
def Errs (w : World) : Prop := ErrAt "strconv.ErrSyntax" w ∧ ErrAt "strconv.ErrRange" w
theorem Errs.below {w w' : World} (h : Errs w) (hb : Below w.heap.size w w') : Errs w' := ⟨h.1.below hb, h.2.below hb⟩

theorem mk_bytes {a : ByteArray} {l : List UInt8} (h : a.data.toList = l) : a = ⟨l.toArray⟩ := by
  apply ByteArray.ext
  rw [← h]
theorem parseInt_ok {s : ByteArray} {v : Int} (h : Lib.atoiAll s.data.toList = .ok v) (hi : (⟨(Lib.itoa v).toArray⟩ : ByteArray) = s) : parseIntF s = (v, true) := by
  obtain ⟨b1, b2⟩ := Lib.atoiAll_bounds h
  exact parseInt_yes b1 b2 (by rw [← hi])
theorem parseInt_other {s : ByteArray} {v : Int} (h : Lib.atoiAll s.data.toList = .ok v) (hi : ¬ (⟨(Lib.itoa v).toArray⟩ : ByteArray) = s) : parseIntF s = (0, false) := by
  unfold parseIntF
  rw [h]
  simp only
  rw [if_neg]
  intro h1
  exact hi (mk_bytes h1.symm).symm
theorem parseInt_err {s : ByteArray} (h : ∀ v, Lib.atoiAll s.data.toList ≠ .ok v) : parseIntF s = (0, false) := by
  unfold parseIntF
  split
  · rename_i v hv
    exact absurd hv (h v)
  · rfl

/-- Atoi at a string that spells no int: an error, whichever. -/
theorem atoi_bad (s : ByteArray) (w : World) (hs : s.size ≤ 1048576) (h : ∀ v, Lib.atoiAll s.data.toList ≠ .ok v) (he : Errs w) :
    Calls Tryd.prog 66 #[.string s] w fun e w' => ∃ (z : Int) (N : Nat), e = .returned (.tuple #[.int .i64 z, .iface 119 (.pointer (some ⟨N, 0, none⟩))]) ∧ Below w.heap.size w w' := by
  obtain ⟨⟨tp, p, h1⟩, ⟨tq, q, h2⟩⟩ := he
  rcases hr : Lib.atoiAll s.data.toList with v | _ | _
  · exact absurd hr (h v)
  · exact (Any.strconv_Atoi_syntax_var Tryd.laysC172 s (by omega) hr tp p w h1).mono fun _ _ ⟨N, he, _, _, hb⟩ => ⟨_, N, he, hb⟩
  · exact (Any.strconv_Atoi_range_var Tryd.laysC172 s (by omega) hr tq q w h2).mono fun _ _ ⟨N, he, _, _, hb⟩ => ⟨_, N, he, hb⟩
set_option maxHeartbeats 2000000 in
theorem impl_ParseInt (s : ByteArray) (w : World) (hs : s.size ≤ 1048576) (ht : Tab w) (he : Errs w) :
    Calls Tryd.prog 29 #[.string s] w fun e w' => e = .returned (.tuple #[.int .i64 (parseIntF s).1, .bool (parseIntF s).2]) ∧ Below w.heap.size w w' := by
  have HT := Lib.hid ht
  have HE := Lib.hid he
  clear ht he
  by_cases hok : ∃ v, Lib.atoiAll s.data.toList = .ok v
  · obtain ⟨v, hv⟩ := hok
    obtain ⟨v0, v1⟩ := Lib.atoiAll_bounds hv
    have HV := Lib.hid hv
    obtain ⟨X, hX⟩ : ∃ X : ByteArray, X = ⟨(Lib.itoa v).toArray⟩ := ⟨_, rfl⟩
    have HX := Lib.hid hX
    by_cases hi : X = s
    · have HR := Lib.hid (parseInt_ok hv (by rw [← hX]; exact hi))
      have hc := str_eq hi
      clear hi hX hv
      go_enter Tryd.func29, Tryd.ntmps29
      go_wp2_with fail
      refine (Tryd.strconv_Atoi_ok s (by omega) v HV.out _).mono ?_
      rintro e w1 ⟨rfl, hw⟩
      have b1 : Below w.heap.size w w1 := by
        rcases hw with rfl | ⟨t, rfl⟩
        · exact Below.refl _ _
        · exact Lib.bytesWorld_below _ _ _
      have z1 := b1.size
      clear hw
      go_wp2_with fail
      refine (Tryd.strconv_Itoa v v0 v1 _ (HT.out.below b1)).mono ?_
      rintro e w2 ⟨rfl, k, os, rfl⟩
      have b2 := below_grow w1 k os
      generalize Go.Sort.grow (w1.drewN k) os = w2 at *
      rw [← HX.out]
      go_wp2
      go_ret2
      exact ⟨ret_ib HR.out, (by repeat' (first | (with_reducible exact Below.refl _ _) | (with_reducible refine Below.alloc ?_ ?_ _) | (with_reducible refine Below.setCell ?_ ?_ _) | (with_reducible refine below_drewN ?_ _) | (with_reducible refine Below.drew ?_) | (with_reducible refine below_step (by assumption) ?_ ?_) | omega | (simp; done) | (simp; omega)))⟩
    · have HR := Lib.hid (parseInt_other hv (by rw [← hX]; exact hi))
      have hc := str_ne hi
      clear hi hX hv
      go_enter Tryd.func29, Tryd.ntmps29
      go_wp2_with fail
      refine (Tryd.strconv_Atoi_ok s (by omega) v HV.out _).mono ?_
      rintro e w1 ⟨rfl, hw⟩
      have b1 : Below w.heap.size w w1 := by
        rcases hw with rfl | ⟨t, rfl⟩
        · exact Below.refl _ _
        · exact Lib.bytesWorld_below _ _ _
      have z1 := b1.size
      clear hw
      go_wp2_with fail
      refine (Tryd.strconv_Itoa v v0 v1 _ (HT.out.below b1)).mono ?_
      rintro e w2 ⟨rfl, k, os, rfl⟩
      have b2 := below_grow w1 k os
      generalize Go.Sort.grow (w1.drewN k) os = w2 at *
      rw [← HX.out]
      go_wp2
      go_ret2
      exact ⟨ret_ib HR.out, (by repeat' (first | (with_reducible exact Below.refl _ _) | (with_reducible refine Below.alloc ?_ ?_ _) | (with_reducible refine Below.setCell ?_ ?_ _) | (with_reducible refine below_drewN ?_ _) | (with_reducible refine Below.drew ?_) | (with_reducible refine below_step (by assumption) ?_ ?_) | omega | (simp; done) | (simp; omega)))⟩
  · have hno : ∀ v, Lib.atoiAll s.data.toList ≠ .ok v := fun v hv => hok ⟨v, hv⟩
    have HR := Lib.hid (parseInt_err hno)
    have HN := Lib.hid hno
    clear hok hno
    go_enter Tryd.func29, Tryd.ntmps29
    go_wp2_with fail
    refine (atoi_bad s _ hs HN.out HE.out).mono ?_
    rintro e w1 ⟨z, N, rfl, b1⟩
    go_wp2
    go_ret2
    exact ⟨ret_ib HR.out, b1⟩
set_option maxHeartbeats 4000000 in
theorem spec_ParseInt (s : ByteArray) (w : World) (hs : s.size ≤ 1048576) :
    Calls Tryd.prog 28 #[.string s] w fun e w' => e = .returned (.tuple #[.int .i64 (parseIntF s).1, .bool (parseIntF s).2]) ∧ Below w.heap.size w w' := by
  have hcs : (∃ h : 0 < s.size, ((s[0].toNat : Int) == 45) = true) ∨ ((∃ h : 0 < s.size, ((s[0].toNat : Int) == 45) = false) ∨ ¬ 0 < s.size) := by
    by_cases h : 0 < s.size
    · cases h1 : ((s[0].toNat : Int) == 45)
      · exact .inr (.inl ⟨h, h1⟩)
      · exact .inl ⟨h, h1⟩
    · exact .inr (.inr h)
  rcases hcs with ⟨hp, h45⟩ | hcs
  · have hm : minusB s = true := by rw [minus_of hp, h45]
    obtain ⟨T, hT⟩ : ∃ T, s.extract 1 s.size = T := ⟨_, rfl⟩
    have HBE : Hid (behindB s = T) := Lib.hid (by unfold behindB; rw [if_pos hm]; exact hT)
    have HM := Lib.hid hm
    clear hm
    have hTs : T.size ≤ 1048576 := by rw [← hT, ByteArray.size_extract]; omega
    cases hd : digitsB T with
    | false =>
      have HR := Lib.hid (not_spelt (s := s) (by rw [HBE.out]; exact hd))
      go_enter Tryd.func28, Tryd.ntmps28
      go_wp2_with fail
      refine (spec_IsDigits T _ (by unfold maxLen; omega)).mono ?_
      rintro e w' ⟨rfl, rfl⟩
      rw [hd]
      go_wp2
      go_ret2
      exact ⟨ret_ib HR.out, (by repeat' (first | (with_reducible exact Below.refl _ _) | (with_reducible refine Below.alloc ?_ ?_ _) | (with_reducible refine Below.setCell ?_ ?_ _) | (with_reducible refine below_drewN ?_ _) | (with_reducible refine Below.drew ?_) | (with_reducible refine below_step (by assumption) ?_ ?_) | omega | (simp; done) | (simp; omega)))⟩
    | true =>
    have HD := Lib.hid hd
    obtain ⟨hall, hpos⟩ := digits_all hd
    have HA := Lib.hid hall
    clear hd hall
    by_cases hl : 19 < T.size
    · have HR := Lib.hid (too_long (s := s) (by rw [HBE.out]; exact hl))
      go_enter Tryd.func28, Tryd.ntmps28
      go_wp2_with fail
      refine (spec_IsDigits T _ (by unfold maxLen; omega)).mono ?_
      rintro e w' ⟨rfl, rfl⟩
      rw [HD.out]
      go_wp2
      go_ret2
      exact ⟨ret_ib HR.out, (by repeat' (first | (with_reducible exact Below.refl _ _) | (with_reducible refine Below.alloc ?_ ?_ _) | (with_reducible refine Below.setCell ?_ ?_ _) | (with_reducible refine below_drewN ?_ _) | (with_reducible refine Below.drew ?_) | (with_reducible refine below_step (by assumption) ?_ ?_) | omega | (simp; done) | (simp; omega)))⟩
    go_enter Tryd.func28, Tryd.ntmps28
    go_wp2_with fail
    refine (spec_IsDigits T _ (by unfold maxLen; omega)).mono ?_
    rintro e w' ⟨rfl, rfl⟩
    rw [HD.out]
    go_wp2
    go_loop [6, 7, 8] (fun n i _ => ∃ (j : Nat) (z : Int), i = .int .i64 j ∧ n = .int .i64 z ∧ j ≤ T.size ∧ Hid (z = -(numD (T.data.toList.take j) : Int)) ∧ -9223372036854775808 ≤ z ∧ z ≤ 0) (fun _ i _ => T.size - (intOf i).toNat)
    case atStart => exact ⟨0, 0, rfl, rfl, Nat.zero_le _, Lib.hid (by rw [List.take_zero, numD_nil]; rfl), by omega, by omega⟩
    case round =>
      obtain ⟨j, z, rfl, rfl, hj, HZ, hz0, hz1⟩ := hrel
      by_cases hlt : j < T.size
      · have hg := byte_get hlt
        have hdig : digB T[j] = true := List.all_eq_true.1 HA.out T[j] (List.mem_of_getElem? hg)
        obtain ⟨x0, x1⟩ := digB_nat hdig
        have HST : Hid (numD (T.data.toList.take (j + 1)) = 10 * numD (T.data.toList.take j) + (T[j].toNat - 48)) := Lib.hid (by have := seg_snoc (f := 0) (Nat.zero_le _) hg; simpa using this)
        obtain ⟨x, hx⟩ : ∃ x : Int, (T[j].toNat : Int) = x := ⟨_, rfl⟩
        have hx0 : 48 ≤ x := by omega
        have hx1 : x ≤ 57 := by omega
        have HXX := Lib.hid hx
        clear hg hdig x0 x1
        by_cases hgd : z < ((-9223372036854775808 + (x - 48)).tdiv 10)
        · have HR := Lib.hid (too_great (s := s) (i := j + 1) (by rw [HBE.out]; exact HA.out) (by
            rw [HBE.out, HST.out]
            have h1 := (quo_iff (by omega)).1 hgd
            have h2 := HZ.out
            have h3 := HXX.out
            omega))
          go_wp2
          go_ret2
          exact ⟨ret_ib HR.out, (by repeat' (first | (with_reducible exact Below.refl _ _) | (with_reducible refine Below.alloc ?_ ?_ _) | (with_reducible refine Below.setCell ?_ ?_ _) | (with_reducible refine below_drewN ?_ _) | (with_reducible refine Below.drew ?_) | (with_reducible refine below_step (by assumption) ?_ ?_) | omega | (simp; done) | (simp; omega)))⟩
        · have hz2 : ¬ 10 * z < -9223372036854775808 + (x - 48) := fun h => hgd ((quo_iff (by omega)).2 h)
          have hz3 : -9223372036854775808 ≤ z * 10 := by omega
          have hz4 : -9223372036854775808 ≤ z * 10 - (x - 48) := by omega
          have HN : Hid (z * 10 - (x - 48) = -(numD (T.data.toList.take (j + 1)) : Int)) := Lib.hid (by
            rw [HST.out]
            have h2 := HZ.out
            have h3 := HXX.out
            omega)
          clear hz2
          go_wp2
          go_round
          case rel => exact ⟨j + 1, z * 10 - (x - 48), by go_num, rfl, by omega, HN, by omega, by omega⟩
          case measure => simp [intOf]; omega
      · have HZ2 : Hid (z = -(numD T.data.toList : Int)) := Lib.hid (by have := HZ.out; rwa [List.take_of_length_le (by rw [list_size]; omega)] at this)
        obtain ⟨X, hX⟩ : ∃ X : ByteArray, X = ⟨(Lib.itoa z).toArray⟩ := ⟨_, rfl⟩
        have HX := Lib.hid hX
        by_cases hi : X = s
        · have HR := Lib.hid (parseInt_yes (s := s) (n := z) (by omega) (by omega) (by rw [← hi, hX]))
          have hc := str_eq hi
          clear hi hX
          go_wp2_with fail
          refine (spec_FormatInt z _ (by omega) (by omega)).mono ?_
          rintro e w1 ⟨rfl, b1⟩
          rw [← HX.out]
          go_wp2
          go_ret2
          exact ⟨ret_ib HR.out, b1⟩
        · have HR := Lib.hid (other_text (s := s) (n := z) (by rw [HM.out, HBE.out]; unfold bigZ; have := HZ2.out; rw [if_pos rfl]; omega) (fun h => hi (by rw [hX]; exact (mk_bytes h.symm).symm)))
          have hc := str_ne hi
          clear hi hX
          go_wp2_with fail
          refine (spec_FormatInt z _ (by omega) (by omega)).mono ?_
          rintro e w1 ⟨rfl, b1⟩
          rw [← HX.out]
          go_wp2
          go_ret2
          exact ⟨ret_ib HR.out, b1⟩
  · have hm : minusB s = false := by
      rcases hcs with ⟨hp, h45⟩ | hn
      · rw [minus_of hp, h45]
      · exact minus_none hn
    have HBE : Hid (behindB s = s) := Lib.hid (by unfold behindB; rw [if_neg (by rw [hm]; simp)])
    rcases hcs with ⟨hp, h45⟩ | hn
    · have HM := Lib.hid hm
      clear hm
      cases hd : digitsB s with
      | false =>
        have HR := Lib.hid (not_spelt (s := s) (by rw [HBE.out]; exact hd))
        go_enter Tryd.func28, Tryd.ntmps28
        go_wp2_with fail
        refine (spec_IsDigits s _ (by unfold maxLen; omega)).mono ?_
        rintro e w' ⟨rfl, rfl⟩
        rw [hd]
        go_wp2
        go_ret2
        exact ⟨ret_ib HR.out, (by repeat' (first | (with_reducible exact Below.refl _ _) | (with_reducible refine Below.alloc ?_ ?_ _) | (with_reducible refine Below.setCell ?_ ?_ _) | (with_reducible refine below_drewN ?_ _) | (with_reducible refine Below.drew ?_) | (with_reducible refine below_step (by assumption) ?_ ?_) | omega | (simp; done) | (simp; omega)))⟩
      | true =>
      have HD := Lib.hid hd
      obtain ⟨hall, hpos⟩ := digits_all hd
      have HA := Lib.hid hall
      clear hd hall
      by_cases hl : 19 < s.size
      · have HR := Lib.hid (too_long (s := s) (by rw [HBE.out]; exact hl))
        go_enter Tryd.func28, Tryd.ntmps28
        go_wp2_with fail
        refine (spec_IsDigits s _ (by unfold maxLen; omega)).mono ?_
        rintro e w' ⟨rfl, rfl⟩
        rw [HD.out]
        go_wp2
        go_ret2
        exact ⟨ret_ib HR.out, (by repeat' (first | (with_reducible exact Below.refl _ _) | (with_reducible refine Below.alloc ?_ ?_ _) | (with_reducible refine Below.setCell ?_ ?_ _) | (with_reducible refine below_drewN ?_ _) | (with_reducible refine Below.drew ?_) | (with_reducible refine below_step (by assumption) ?_ ?_) | omega | (simp; done) | (simp; omega)))⟩
      go_enter Tryd.func28, Tryd.ntmps28
      go_wp2_with fail
      refine (spec_IsDigits s _ (by unfold maxLen; omega)).mono ?_
      rintro e w' ⟨rfl, rfl⟩
      rw [HD.out]
      go_wp2
      go_loop [6, 7, 8] (fun n i _ => ∃ (j : Nat) (z : Int), i = .int .i64 j ∧ n = .int .i64 z ∧ j ≤ s.size ∧ Hid (z = -(numD (s.data.toList.take j) : Int)) ∧ -9223372036854775808 ≤ z ∧ z ≤ 0) (fun _ i _ => s.size - (intOf i).toNat)
      case atStart => exact ⟨0, 0, rfl, rfl, Nat.zero_le _, Lib.hid (by rw [List.take_zero, numD_nil]; rfl), by omega, by omega⟩
      case round =>
        obtain ⟨j, z, rfl, rfl, hj, HZ, hz0, hz1⟩ := hrel
        by_cases hlt : j < s.size
        · have hg := byte_get hlt
          have hdig : digB s[j] = true := List.all_eq_true.1 HA.out s[j] (List.mem_of_getElem? hg)
          obtain ⟨x0, x1⟩ := digB_nat hdig
          have HST : Hid (numD (s.data.toList.take (j + 1)) = 10 * numD (s.data.toList.take j) + (s[j].toNat - 48)) := Lib.hid (by have := seg_snoc (f := 0) (Nat.zero_le _) hg; simpa using this)
          obtain ⟨x, hx⟩ : ∃ x : Int, (s[j].toNat : Int) = x := ⟨_, rfl⟩
          have hx0 : 48 ≤ x := by omega
          have hx1 : x ≤ 57 := by omega
          have HXX := Lib.hid hx
          clear hg hdig x0 x1
          by_cases hgd : z < ((-9223372036854775808 + (x - 48)).tdiv 10)
          · have HR := Lib.hid (too_great (s := s) (i := j + 1) (by rw [HBE.out]; exact HA.out) (by
              rw [HBE.out, HST.out]
              have h1 := (quo_iff (by omega)).1 hgd
              have h2 := HZ.out
              have h3 := HXX.out
              omega))
            go_wp2
            go_ret2
            exact ⟨ret_ib HR.out, (by repeat' (first | (with_reducible exact Below.refl _ _) | (with_reducible refine Below.alloc ?_ ?_ _) | (with_reducible refine Below.setCell ?_ ?_ _) | (with_reducible refine below_drewN ?_ _) | (with_reducible refine Below.drew ?_) | (with_reducible refine below_step (by assumption) ?_ ?_) | omega | (simp; done) | (simp; omega)))⟩
          · have hz2 : ¬ 10 * z < -9223372036854775808 + (x - 48) := fun h => hgd ((quo_iff (by omega)).2 h)
            have hz3 : -9223372036854775808 ≤ z * 10 := by omega
            have hz4 : -9223372036854775808 ≤ z * 10 - (x - 48) := by omega
            have HN : Hid (z * 10 - (x - 48) = -(numD (s.data.toList.take (j + 1)) : Int)) := Lib.hid (by
              rw [HST.out]
              have h2 := HZ.out
              have h3 := HXX.out
              omega)
            clear hz2
            go_wp2
            go_round
            case rel => exact ⟨j + 1, z * 10 - (x - 48), by go_num, rfl, by omega, HN, by omega, by omega⟩
            case measure => simp [intOf]; omega
        · have HZ2 : Hid (z = -(numD s.data.toList : Int)) := Lib.hid (by have := HZ.out; rwa [List.take_of_length_le (by rw [list_size]; omega)] at this)
          by_cases hm : z = -9223372036854775808
          · have HR := Lib.hid (great_pos (s := s) HM.out (by rw [HBE.out]; have := HZ2.out; omega))
            have hb : (z == -9223372036854775808) = true := by rw [hm]; rfl
            clear hm
            go_wp2
            go_ret2
            exact ⟨ret_ib HR.out, (by repeat' (first | (with_reducible exact Below.refl _ _) | (with_reducible refine Below.alloc ?_ ?_ _) | (with_reducible refine Below.setCell ?_ ?_ _) | (with_reducible refine below_drewN ?_ _) | (with_reducible refine Below.drew ?_) | (with_reducible refine below_step (by assumption) ?_ ?_) | omega | (simp; done) | (simp; omega)))⟩
          have hb : (z == -9223372036854775808) = false := by rw [beq_eq_false_iff_ne]; exact hm
          obtain ⟨X, hX⟩ : ∃ X : ByteArray, X = ⟨(Lib.itoa (-z)).toArray⟩ := ⟨_, rfl⟩
          have HX := Lib.hid hX
          by_cases hi : X = s
          · have HR := Lib.hid (parseInt_yes (s := s) (n := (-z)) (by omega) (by omega) (by rw [← hi, hX]))
            have hc := str_eq hi
            clear hi hX
            go_wp2_with fail
            refine (spec_FormatInt (-z) _ (by omega) (by omega)).mono ?_
            rintro e w1 ⟨rfl, b1⟩
            rw [← HX.out]
            go_wp2
            go_ret2
            exact ⟨ret_ib HR.out, b1⟩
          · have HR := Lib.hid (other_text (s := s) (n := (-z)) (by rw [HM.out, HBE.out]; unfold bigZ; have := HZ2.out; rw [if_neg (by simp)]; omega) (fun h => hi (by rw [hX]; exact (mk_bytes h.symm).symm)))
            have hc := str_ne hi
            clear hi hX
            go_wp2_with fail
            refine (spec_FormatInt (-z) _ (by omega) (by omega)).mono ?_
            rintro e w1 ⟨rfl, b1⟩
            rw [← HX.out]
            go_wp2
            go_ret2
            exact ⟨ret_ib HR.out, b1⟩
    · have HM := Lib.hid hm
      have HR := Lib.hid (not_spelt (s := s) (by rw [HBE.out]; unfold digitsB; rw [decide_eq_false (by omega : ¬ 0 < s.size)]; simp))
      have hd : digitsB s = false := by unfold digitsB; rw [decide_eq_false (by omega : ¬ 0 < s.size)]; simp
      clear hm
      go_enter Tryd.func28, Tryd.ntmps28
      go_wp2_with fail
      refine (spec_IsDigits s _ (by unfold maxLen; omega)).mono ?_
      rintro e w' ⟨rfl, rfl⟩
      rw [hd]
      go_wp2
      go_ret2
      exact ⟨ret_ib HR.out, (by repeat' (first | (with_reducible exact Below.refl _ _) | (with_reducible refine Below.alloc ?_ ?_ _) | (with_reducible refine Below.setCell ?_ ?_ _) | (with_reducible refine below_drewN ?_ _) | (with_reducible refine Below.drew ?_) | (with_reducible refine below_step (by assumption) ?_ ?_) | omega | (simp; done) | (simp; omega)))⟩
end Go.Proofs.YticekjagmcphbaaDoor
