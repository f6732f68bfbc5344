/-
  Contracts: SplitAny of both packages. Written by an AI agent.
-/
import Derived.Test.YticekjagmcphbaaDoorStrs
import Derived.Test.YticekjagmcphbaaDoorText
namespace Go.Proofs.YticekjagmcphbaaDoor
open Go.RowKit

/-- Does byte b occur in s? -/
def hasB (s : ByteArray) (b : UInt8) : Bool := s.data.toList.any (· == b)
/-- The parts of s from place i on, the running part beginning at f. -/
def parts (s by' : ByteArray) (f i : Nat) : List ByteArray :=
  if h : i < s.size then (if hasB by' s[i] = true then s.extract f i :: parts s by' (i + 1) (i + 1) else parts s by' f (i + 1)) else [s.extract f s.size]
termination_by s.size - i
theorem parts_end {s b : ByteArray} {f i : Nat} (h : ¬ i < s.size) : parts s b f i = [s.extract f s.size] := by rw [parts, dif_neg h]
theorem parts_hit {s b : ByteArray} {f i : Nat} (h : i < s.size) (hb : hasB b s[i] = true) : parts s b f i = s.extract f i :: parts s b (i + 1) (i + 1) := by rw [parts, dif_pos h, if_pos hb]
theorem parts_miss {s b : ByteArray} {f i : Nat} (h : i < s.size) (hb : hasB b s[i] = false) : parts s b f i = parts s b f (i + 1) := by
  rw [parts, dif_pos h, if_neg (by rw [hb]; simp)]
theorem any_bad {s : ByteArray} {b : UInt8} (h : (s.data.toList.take s.size).any (· == b) = false) : hasB s b = false := by
  unfold hasB
  rwa [List.take_of_length_le (by rw [list_size]; omega)] at h
theorem any_hit {s : ByteArray} {b : UInt8} {k : Nat} (hk : k < s.size) (h : s[k] = b) : hasB s b = true := by
  unfold hasB
  rw [List.any_eq_true]
  exact ⟨s[k], List.mem_of_getElem? (byte_get hk), by rw [h]; simp⟩
theorem any_snoc {l : List UInt8} {b d : UInt8} {k : Nat} (h : (l.take k).any (· == b) = false) (hd : l[k]? = some d) (hne : d ≠ b) : (l.take (k + 1)).any (· == b) = false := by
  rw [take_snoc hd, List.any_append, h]
  simpa using hne
theorem byte_eq {a b : UInt8} (h : a = b) : ((a.toNat : Int) == (b.toNat : Int)) = true := by rw [h]; simp
theorem byte_ne {a b : UInt8} (h : ¬ a = b) : ((a.toNat : Int) == (b.toNat : Int)) = false := by
  rw [beq_eq_false_iff_ne]
  intro h1
  exact h (UInt8.toNat_inj.1 (by omega))

set_option maxHeartbeats 1000000 in
theorem impl_hasByte (s : ByteArray) (b : UInt8) (w : World) (hs : s.size ≤ maxLen) :
    Calls Tryd.prog 80 #[.string s, .int .u8 (b.toNat : Int)] w fun e w' => e = .returned (.bool (hasB s b)) ∧ w = w' := by
  unfold maxLen at hs
  go_enter Tryd.func80, Tryd.ntmps80
  go_wp2
  go_loop [5] (fun i => ∃ k : Nat, k ≤ s.size ∧ i = .int .i64 k ∧ (s.data.toList.take k).any (· == b) = false) (fun i => s.size - (intOf i).toNat)
  case atStart => exact ⟨0, Nat.zero_le _, rfl, rfl⟩
  case round =>
    obtain ⟨k, hk, rfl, hall⟩ := hrel
    have HA := Lib.hid hall; clear hall
    by_cases hlt : k < s.size
    · have HD := Lib.hid (byte_get hlt)
      by_cases h1 : s[k] = b
      · have hb := byte_eq h1
        have HR := Lib.hid (any_hit hlt h1)
        clear h1
        go_wp2
        go_ret
        exact ⟨ret_bool HR.out.symm, rfl⟩
      · have hb := byte_ne h1
        have HN := Lib.hid h1
        clear h1
        go_wp2
        go_round
        case rel => exact ⟨k + 1, by omega, by go_num, any_snoc HA.out HD.out HN.out⟩
        case measure => simp [intOf]; omega
    · have HR := Lib.hid (any_bad (by have := HA.out; rwa [show k = s.size by omega] at this))
      go_wp2
      go_ret
      exact ⟨ret_bool HR.out.symm, rfl⟩
theorem parts_len {s b : ByteArray} : ∀ (n i f : Nat), n = s.size - i → (parts s b f i).length ≤ s.size - i + 1 := by
  intro n
  induction n with
  | zero =>
    intro i f h
    rw [parts_end (by omega)]
    simp
  | succ n ih =>
    intro i f h
    have hi : i < s.size := by omega
    cases hb : hasB b s[i] with
    | true =>
      rw [parts_hit hi hb, List.length_cons]
      have := ih (i + 1) (i + 1) (by omega)
      omega
    | false =>
      rw [parts_miss hi hb]
      have := ih (i + 1) f (by omega)
      omega
theorem parts_ne {s b : ByteArray} : ∀ (n i f : Nat), n = s.size - i → 0 < (parts s b f i).length := by
  intro n
  induction n with
  | zero =>
    intro i f h
    rw [parts_end (by omega)]
    simp
  | succ n ih =>
    intro i f h
    have hi : i < s.size := by omega
    cases hb : hasB b s[i] with
    | true => rw [parts_hit hi hb]; simp
    | false =>
      rw [parts_miss hi hb]
      exact ih (i + 1) f (by omega)
/-- What SplitAny hands back. -/
def splitF (s b : ByteArray) : List ByteArray := parts s b 0 0
theorem splitF_len (s b : ByteArray) : (splitF s b).length ≤ s.size + 1 := by
  have := parts_len (s := s) (b := b) s.size 0 0 rfl
  simpa [splitF] using this

set_option maxHeartbeats 1000000 in
theorem impl_SplitAny (s b : ByteArray) (w : World) (hs : s.size ≤ 1048576) (hb : b.size ≤ maxLen) :
    Calls Tryd.prog 37 #[.string s, .string b] w (RetOwnS 9 (splitF s b) w) := by
  have HB := Lib.hid hb
  clear hb
  go_enter Tryd.func37, Tryd.ntmps37
  go_wp2
  go_loopw [5, 6, 7] (fun l f i wr => ∃ (k j : Nat) (xs : List ByteArray), k ≤ s.size ∧ j ≤ k ∧ i = .int .i64 k ∧ f = .int .i64 j ∧ xs ++ parts s b j k = splitF s b ∧ xs.length ≤ k ∧ OwnS wr w.heap.size 9 l xs ∧ Below w.heap.size w wr) (fun _ _ i _ => s.size - (intOf i).toNat)
  case atStart => exact ⟨0, 0, [], Nat.zero_le _, Nat.zero_le _, rfl, rfl, rfl, Nat.zero_le _, own_emptyS w (Nat.le_refl _), (by repeat' (first | (with_reducible exact Below.refl _ _) | (with_reducible refine Below.alloc ?_ ?_ _) | (with_reducible refine Below.setCell ?_ ?_ _) | (with_reducible refine below_drewN ?_ _) | (with_reducible refine Below.drew ?_) | (with_reducible refine below_step (by assumption) ?_ ?_) | omega | (simp; done) | (simp; omega)))⟩
  case round =>
    obtain ⟨k, j, xs, hk, hj, rfl, rfl, hp, hl, hown, hbl⟩ := hrel
    have HP := Lib.hid hp
    have HO := Lib.hid hown
    clear hp hown
    have hsz := hbl.size
    by_cases hlt : k < s.size
    · cases hh : hasB b s[k] with
      | true =>
        have HH := Lib.hid (parts_hit (f := j) hlt hh)
        have HC := Lib.hid hh
        clear hh
        go_wp2_with fail
        refine (impl_hasByte b s[k] _ HB.out).mono ?_
        rintro e w' ⟨rfl, rfl⟩
        rw [HC.out]
        go_wp2_with (at_builtin; refine wpList_app1S _ rfl _ _ rfl Tryd.strP HO.out rfl rfl (by omega) hsz ?_; intro v' w1 hown' hb' hg'; clear hg')
        go_roundw
        case rel => exact ⟨k + 1, k + 1, xs ++ [s.extract j k], by omega, Nat.le_refl _, by go_num, by go_num, by rw [List.append_assoc, ← HP.out, HH.out]; rfl, by simp; omega, by simpa using hown', hbl.trans hb'⟩
        case measure => simp [intOf]; omega
      | false =>
        have HH := Lib.hid (parts_miss (f := j) hlt hh)
        have HC := Lib.hid hh
        clear hh
        go_wp2_with fail
        refine (impl_hasByte b s[k] _ HB.out).mono ?_
        rintro e w' ⟨rfl, rfl⟩
        rw [HC.out]
        go_wp2
        go_roundw
        case rel => exact ⟨k + 1, j, xs, by omega, by omega, by go_num, rfl, by rw [← HP.out, HH.out], by omega, HO.out, hbl⟩
        case measure => simp [intOf]; omega
    · have HE := Lib.hid (parts_end (b := b) (f := j) hlt)
      go_wp2_with (at_builtin; refine wpList_app1S _ rfl _ _ rfl Tryd.strP HO.out rfl rfl (by omega) hsz ?_; intro v' w1 hown' hb' hg'; clear hg')
      have HO1 := Lib.hid hown'
      clear hown'
      go_ret
      exact ⟨_, rfl, by rw [← HP.out, HE.out]; simpa using HO1.out, hbl.trans hb'⟩
set_option maxHeartbeats 1000000 in
theorem spec_SplitAny (s b : ByteArray) (w : World) (hs : s.size ≤ 1048576) (hb : b.size ≤ maxLen) :
    Calls Tryd.prog 67 #[.string s, .string b] w (RetOwnS 9 (splitF s b) w) := by
  have hbm : b.size ≤ 9223372036854775807 := by unfold maxLen at hb; omega
  clear hb
  go_enter Tryd.func67, Tryd.ntmps67
  go_wp2
  go_loopw [5, 6, 7] (fun l f i wr => ∃ (k j : Nat) (xs : List ByteArray), k ≤ s.size ∧ j ≤ k ∧ i = .int .i64 k ∧ f = .int .i64 j ∧ xs ++ parts s b j k = splitF s b ∧ xs.length ≤ k ∧ OwnS wr w.heap.size 9 l xs ∧ Below w.heap.size w wr) (fun _ _ i _ => s.size - (intOf i).toNat)
  case atStart => exact ⟨0, 0, [], Nat.zero_le _, Nat.zero_le _, rfl, rfl, rfl, Nat.zero_le _, own_emptyS w (Nat.le_refl _), (by repeat' (first | (with_reducible exact Below.refl _ _) | (with_reducible refine Below.alloc ?_ ?_ _) | (with_reducible refine Below.setCell ?_ ?_ _) | (with_reducible refine below_drewN ?_ _) | (with_reducible refine Below.drew ?_) | (with_reducible refine below_step (by assumption) ?_ ?_) | omega | (simp; done) | (simp; omega)))⟩
  case round =>
    obtain ⟨k, j, xs, hk, hj, rfl, rfl, hp, hl, hown, hbl⟩ := hrel
    have HP := Lib.hid hp
    have HO := Lib.hid hown
    clear hp hown
    have hsz := hbl.size
    by_cases hlt : k < s.size
    · go_wp2
      go_loopw [5, 6, 8] (fun l f i wq => ∃ q : Nat, q ≤ b.size ∧ i = .int .i64 q ∧ f = .int .i64 j ∧ (b.data.toList.take q).any (· == s[k]) = false ∧ OwnS wq w.heap.size 9 l xs ∧ Below w.heap.size w wq ∧ w.heap.size ≤ wq.heap.size) (fun _ _ i _ => b.size - (intOf i).toNat)
      case atStart => exact ⟨0, Nat.zero_le _, rfl, rfl, rfl, HO.out, hbl, hsz⟩
      case round =>
        obtain ⟨q, hq, rfl, rfl, hany, hown, hbq, hsq⟩ := hrel
        have HA := Lib.hid hany
        have HO1 := Lib.hid hown
        clear hany hown
        by_cases hqt : q < b.size
        · have HD := Lib.hid (byte_get hqt)
          by_cases h1 : b[q] = s[k]
          · have hbb := byte_eq h1.symm
            have HR := Lib.hid (parts_hit (f := j) hlt (any_hit hqt h1))
            clear h1
            go_wp2
            go_quiet (fail)
            go_wp2_with (at_builtin; refine wpList_app1S _ rfl _ _ rfl Tryd.strP HO1.out rfl rfl (by omega) (by assumption) ?_; intro v' w1 hown' hb' hg'; clear hg')
            go_roundw
            case rel => exact ⟨k + 1, k + 1, xs ++ [s.extract j k], by omega, Nat.le_refl _, by go_num, by go_num, by rw [List.append_assoc, ← HP.out, HR.out]; rfl, by simp; omega, by simpa using hown', (below_drewN hbq _).trans hb'⟩
            case measure => simp [intOf]; omega
          · have hbb := byte_ne (fun h => h1 h.symm)
            have HN := Lib.hid h1
            clear h1
            go_wp2
            go_quiet (fail)
            go_wp2
            go_roundw
            case rel => exact ⟨q + 1, by omega, by go_num, rfl, any_snoc HA.out HD.out HN.out, HO1.out, below_drewN hbq _, hsq⟩
            case measure => simp [intOf]; omega
        · have HR := Lib.hid (parts_miss (f := j) hlt (any_bad (by have := HA.out; rwa [show q = b.size by omega] at this)))
          go_wp2
          go_roundw
          case rel => exact ⟨k + 1, j, xs, by omega, by omega, by go_num, rfl, by rw [← HP.out, HR.out], by omega, HO1.out, hbq⟩
          case measure => simp [intOf]; omega
    · have HE := Lib.hid (parts_end (b := b) (f := j) hlt)
      go_wp2_with (at_builtin; refine wpList_app1S _ rfl _ _ rfl Tryd.strP HO.out rfl rfl (by omega) hsz ?_; intro v' w1 hown' hb' hg'; clear hg')
      have HO1 := Lib.hid hown'
      clear hown'
      go_ret
      exact ⟨_, rfl, by rw [← HP.out, HE.out]; simpa using HO1.out, hbl.trans hb'⟩
/-- What SplitLines hands back. -/
def linesF (s : ByteArray) : List ByteArray := if (splitF s ⟨#[10]⟩).getLast? = some ⟨#[]⟩ then (splitF s ⟨#[10]⟩).take ((splitF s ⟨#[10]⟩).length - 1) else splitF s ⟨#[10]⟩
theorem linesF_len (s : ByteArray) : (linesF s).length ≤ s.size + 1 := by
  have h := splitF_len s ⟨#[10]⟩
  unfold linesF
  split
  · rw [List.length_take]; omega
  · exact h
theorem splitF_pos (s b : ByteArray) : 0 < (splitF s b).length := parts_ne _ 0 0 rfl
theorem str_isE {d : ByteArray} (h : d = ⟨#[]⟩) : d.toList.isEmpty = true := by rw [h, ByteArray.toList_eq]; rfl
theorem str_noE {d : ByteArray} (h : ¬ d = ⟨#[]⟩) : d.toList.isEmpty = false := by
  rw [ByteArray.toList_eq, List.isEmpty_eq_false_iff]
  intro h1
  exact h (ByteArray.ext (Array.toList_inj.1 (by rw [h1])))
theorem last_at {xs : List ByteArray} {m : Nat} {d : ByteArray} (hl : xs.length = m + 1) (hd : xs[m]? = some d) : xs.getLast? = some d := by
  rw [List.getLast?_eq_getElem?, hl]
  exact hd


set_option maxHeartbeats 1000000 in
theorem impl_SplitLines (s : ByteArray) (w : World) (hs : s.size ≤ 1048576) :
    Calls Tryd.prog 39 #[.string s] w (RetOwnS 9 (linesF s) w) := by
  have HL := Lib.hid (splitF_len s ⟨#[10]⟩)
  have hp := splitF_pos s ⟨#[10]⟩
  obtain ⟨xs, hxs⟩ : ∃ xs, xs = splitF s ⟨#[10]⟩ := ⟨_, rfl⟩
  have HX := Lib.hid hxs
  rw [← hxs] at hp HL
  have hlen := HL.out
  obtain ⟨m, hm⟩ : ∃ m, xs.length = m + 1 := ⟨xs.length - 1, by omega⟩
  obtain ⟨d, hd⟩ : ∃ d, xs[m]? = some d := ⟨_, List.getElem?_eq_getElem (by omega)⟩
  have HM := Lib.hid hm
  have hmi : (m : Int) + 1 ≤ 1048577 := by omega
  have HR : Hid ((d = ⟨#[]⟩ ∧ linesF s = xs.take m) ∨ (¬ d = ⟨#[]⟩ ∧ linesF s = xs)) := Lib.hid (by
    unfold linesF
    rw [← hxs, last_at hm hd, hm]
    by_cases h : d = ⟨#[]⟩
    · exact .inl ⟨h, by rw [if_pos (by rw [h])]; rfl⟩
    · exact .inr ⟨h, by rw [if_neg (by simpa using h)]⟩)
  have HD := Lib.hid hd
  clear hd hxs hp hlen hm
  go_enter Tryd.func39, Tryd.ntmps39
  go_wp2_with fail
  refine (impl_SplitAny s ⟨#[10]⟩ _ hs (by unfold maxLen; decide)).mono ?_
  rintro e w1 ⟨r, rfl, o1, b1⟩
  rw [← HX.out] at o1
  obtain ⟨A, c, rfl, f1, f2, f3⟩ := o1.form
  have HO := Lib.hid o1
  obtain ⟨g, rfl, hg1, hg2⟩ := f3 (by rw [HM.out]; omega)
  have hc : w1.cell? ⟨g, m, none⟩ = some (.string d) := by
    obtain ⟨_, _, hv, _, _, h7⟩ := o1.sl
    cases hv
    obtain ⟨b, off, hb, h8⟩ := h7 (by rw [HM.out]; omega)
    cases hb
    simpa using h8 m d HD.out
  rw [HM.out] at HO f1 ⊢
  have f4 : (m : Int) ≤ (c : Int) := by omega
  clear o1 f2 f3
  rcases HR.out with ⟨h1, h2⟩ | ⟨h1, h2⟩
  · have hb := str_isE h1
    have H2 := Lib.hid h2
    have H1 := Lib.hid h1
    clear h1 h2
    go_wp2
    go_ret
    refine ⟨_, rfl, ?_, b1⟩
    rw [H2.out]
    have h9 := HO.out
    rw [← HM.out] at h9
    exact h9.cut (by rw [HM.out]; omega)
  · clear f1 f4
    have hb := str_noE h1
    have H2 := Lib.hid h2
    clear h1 h2
    go_wp2
    go_ret
    refine ⟨_, rfl, ?_, b1⟩
    rw [H2.out]
    have h9 := HO.out
    rwa [← HM.out] at h9


end Go.Proofs.YticekjagmcphbaaDoor
