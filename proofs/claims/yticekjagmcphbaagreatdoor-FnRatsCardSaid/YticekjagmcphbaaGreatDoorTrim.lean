/-
  Contracts: cutting the zero limbs at the end; the limit of sixty limbs. Written by an AI agent.
-/
import Derived.Test.YticekjagmcphbaaGreatDoorNum
import Derived.Test.YticekjagmcphbaaGreatDoorApp
namespace Go.Proofs.YticekjagmcphbaaGreatDoor
open Go.RowKit

theorem val_take {xs : List Int} {j : Nat} (hz : ∀ i d, j ≤ i → xs[i]? = some d → d = 0) : val (xs.take j) = val xs := by
  have h : val (xs.drop j) = 0 := by
    have : xs.drop j = List.replicate (xs.drop j).length 0 := by
      apply List.eq_replicate_iff.2
      refine ⟨rfl, fun b hb => ?_⟩
      obtain ⟨i, hi⟩ := List.getElem?_of_mem hb
      rw [List.getElem?_drop] at hi
      exact hz (j + i) b (by omega) hi
    rw [this, val_replicate]
  have h2 := val_append (xs.take j) (xs.drop j)
  rw [List.take_append_drop, h] at h2
  omega
/-- The number of limbs that stay. -/
def trimN (xs : List Int) : Nat := (toL (val xs).toNat).length
theorem trim_take {xs : List Int} {j : Nat} (hl : Limbs xs) (hj : j ≤ xs.length) (hz : ∀ i d, j ≤ i → xs[i]? = some d → d = 0) (hlast : j = 0 ∨ 0 < j ∧ ∃ d, xs[j - 1]? = some d ∧ d ≠ 0) :
    xs.take j = toL (val xs).toNat := by
  rw [← val_take hz]
  symm
  apply toL_of_limbs (hl.take j)
  rcases hlast with rfl | ⟨hj0, d, hd, hne⟩
  · simp
  · rw [List.getLast?_eq_getElem?, List.length_take, Nat.min_eq_left hj, List.getElem?_take, if_pos (by omega), hd]
    intro he
    cases he
    exact hne rfl
theorem trim_len {xs : List Int} {j : Nat} (hl : Limbs xs) (hj : j ≤ xs.length) (hz : ∀ i d, j ≤ i → xs[i]? = some d → d = 0) (hlast : j = 0 ∨ 0 < j ∧ ∃ d, xs[j - 1]? = some d ∧ d ≠ 0) : j = trimN xs := by
  unfold trimN
  rw [← trim_take hl hj hz hlast, List.length_take]
  omega
theorem trim_le {xs : List Int} (hl : Limbs xs) : trimN xs ≤ xs.length := by
  unfold trimN
  rw [toL_len_le]
  have := val_lt hl
  have := val_nonneg hl
  omega
theorem trim_back {xs : List Int} {j : Nat} (hz : ∀ i d, j + 1 ≤ i → xs[i]? = some d → d = 0) (hd : xs[j]? = some 0) : ∀ i d, j ≤ i → xs[i]? = some d → d = 0 := by
  intro i d hi h
  rcases Nat.eq_or_lt_of_le hi with rfl | hlt
  · rw [hd] at h
    exact (Option.some.inj h).symm
  · exact hz i d hlt h
/-- The zero limbs behind place j: there are none left to cut where limb j - 1 is not zero. -/
def ZeroFrom (xs : List Int) (j : Nat) : Prop := ∀ i d, j ≤ i → xs[i]? = some d → d = 0

theorem trim_exists (xs : List Int) : ∃ j, j ≤ xs.length ∧ (∀ i d, j ≤ i → xs[i]? = some d → d = 0) ∧ (j = 0 ∨ 0 < j ∧ ∃ d, xs[j - 1]? = some d ∧ d ≠ 0) := by
  have h : ∀ k, k ≤ xs.length → ZeroFrom xs k → ∃ j, j ≤ xs.length ∧ ZeroFrom xs j ∧ (j = 0 ∨ 0 < j ∧ ∃ d, xs[j - 1]? = some d ∧ d ≠ 0) := by
    intro k
    induction k with
    | zero => intro hk hz; exact ⟨0, hk, hz, Or.inl rfl⟩
    | succ k ih =>
      intro hk hz
      obtain ⟨d, hd⟩ : ∃ d, xs[k]? = some d := ⟨_, List.getElem?_eq_getElem (by omega)⟩
      by_cases h0 : d = 0
      · subst h0
        exact ih (by omega) (trim_back hz hd)
      · exact ⟨k + 1, hk, hz, Or.inr ⟨by omega, d, by simpa using hd, h0⟩⟩
  exact h xs.length (Nat.le_refl _) (fun i d hi hd => by have := (List.getElem?_eq_some_iff.1 hd).1; omega)
theorem trim_cut {xs : List Int} (hl : Limbs xs) : xs.take (trimN xs) = toL (val xs).toNat := by
  obtain ⟨j, hj, hz, hlast⟩ := trim_exists xs
  rw [← trim_len hl hj hz hlast]
  exact trim_take hl hj hz hlast
/-- A shorter view of an own row. -/
theorem Own.cut {w : World} {base e c j : Nat} {A : Option Addr} {xs : List Int} (h : Own w base e (.slice A xs.length c) xs) (hj : j ≤ xs.length) : Own w base e (.slice A j c) (xs.take j) := by
  have hl : (xs.take j).length = j := by rw [List.length_take]; omega
  unfold Own at h ⊢
  rw [hl]
  refine ⟨by simp; omega, ?_⟩
  rcases h.2 with ⟨hv, h0⟩ | ⟨g, cap, cur, hv, hg, hh, hn, hm, hs, ht⟩
  · left
    simp only [Value.slice.injEq] at hv
    obtain ⟨rfl, h1, rfl⟩ := hv
    have : j = 0 := by omega
    subst this
    exact ⟨rfl, rfl⟩
  · right
    simp only [Value.slice.injEq] at hv
    obtain ⟨rfl, _, rfl⟩ := hv
    refine ⟨g, c, cur, rfl, hg, hh, by omega, hm, hs, ?_⟩
    have h2 := congrArg (List.take (j * 1)) ht
    rw [List.take_take, ← List.map_take] at h2
    rw [show min (j * 1) (xs.length * 1) = j * 1 by omega, Nat.mul_one] at h2
    rw [Nat.mul_one, h2]
theorem Sl.cut {w : World} {c j : Nat} {A : Option Addr} {xs : List Int} (h : Sl w (.slice A xs.length c) xs) (hj : j ≤ xs.length) : Sl w (.slice A j c) (xs.take j) := by
  obtain ⟨A', c', hv, h1, h2, h3⟩ := h
  simp only [Value.slice.injEq, true_and] at hv
  obtain ⟨rfl, rfl⟩ := hv
  have hl : (xs.take j).length = j := by rw [List.length_take]; omega
  refine ⟨A, c, by rw [hl], by omega, h2, fun hp => ?_⟩
  obtain ⟨b, off, rfl, hc⟩ := h3 (by omega)
  refine ⟨b, off, rfl, fun i d hd => hc i d ?_⟩
  rw [List.getElem?_take] at hd
  split at hd
  · exact hd
  · cases hd


set_option maxHeartbeats 1000000 in
theorem impl_natTrim (A : Option Addr) (c : Nat) (xs : List Int) (w : World) (h : Sl w (.slice A xs.length c) xs) (hlm : Limbs xs) :
    Calls Tryz.prog 65 #[.slice A xs.length c] w fun e w' => e = .returned (.slice A (trimN xs) c) ∧ w = w' := by
  have HL := Lib.hid hlm; clear hlm
  obtain ⟨A', c', hv, h1, h2, h3⟩ := h
  simp only [Value.slice.injEq, true_and] at hv
  obtain ⟨rfl, rfl⟩ := hv
  have hm : xs.length ≤ 9223372036854775807 := by unfold maxLen at h2; omega
  go_enter Tryz.func65, Tryz.ntmps65
  go_wp2
  go_loop [3] (fun i => ∃ j : Nat, j ≤ xs.length ∧ i = .int .i64 j ∧ ZeroFrom xs j) (fun i => (intOf i).toNat)
  case atStart => exact ⟨xs.length, Nat.le_refl _, rfl, fun i d hi hd => by have := (List.getElem?_eq_some_iff.1 hd).1; omega⟩
  case round =>
    obtain ⟨j, hj, rfl, hz⟩ := hrel
    have HZ := Lib.hid hz; clear hz
    by_cases hj0 : 0 < j
    · obtain ⟨b, off, rfl, hc⟩ := h3 (by omega)
      obtain ⟨k, rfl⟩ : ∃ k, j = k + 1 := ⟨j - 1, by omega⟩
      obtain ⟨d, hd⟩ : ∃ d, xs[k]? = some d := ⟨_, List.getElem?_eq_getElem (by omega)⟩
      have hcell := hc k d hd
      have HD := Lib.hid hd
      clear hd hc h3
      have hk1 : ((k + 1 : Nat) : Int) - 1 = (k : Int) := by omega
      by_cases hd0 : d = 0
      · have hb : (d == 0) = true := by simpa using hd0
        have H0 := Lib.hid hd0; clear hd0
        go_wp2
        go_round
        case rel => exact ⟨k, by omega, by go_num, trim_back HZ.out (by rw [HD.out, H0.out])⟩
        case measure => simp [intOf]
      · have hb : (d == 0) = false := by simpa using hd0
        have HT := Lib.hid (trim_len HL.out hj HZ.out (Or.inr ⟨by omega, d, by simpa using HD.out, hd0⟩))
        go_wp2
        go_ret
        exact ⟨by rw [← HT.out]; rfl, rfl⟩
    · have HT := Lib.hid (trim_len (j := 0) HL.out (Nat.zero_le _) (by have := HZ.out; rwa [show j = 0 by omega] at this) (Or.inl rfl))
      obtain rfl : j = 0 := by omega
      go_wp2
      go_ret
      exact ⟨by rw [← HT.out]; rfl, rfl⟩

set_option maxHeartbeats 1000000 in
theorem spec_natTrim (A : Option Addr) (c : Nat) (xs : List Int) (w : World) (h : Sl w (.slice A xs.length c) xs) (hlm : Limbs xs) :
    Calls Tryz.prog 75 #[.slice A xs.length c] w fun e w' => e = .returned (.slice A (trimN xs) c) ∧ w = w' := by
  have HL := Lib.hid hlm; clear hlm
  obtain ⟨A', c', hv, h1, h2, h3⟩ := h
  simp only [Value.slice.injEq, true_and] at hv
  obtain ⟨rfl, rfl⟩ := hv
  have hm : xs.length ≤ 9223372036854775807 := by unfold maxLen at h2; omega
  go_enter Tryz.func75, Tryz.ntmps75
  go_wp2
  go_loop [3] (fun i => ∃ j : Nat, j ≤ xs.length ∧ i = .int .i64 j ∧ ZeroFrom xs j) (fun i => (intOf i).toNat)
  case atStart => exact ⟨xs.length, Nat.le_refl _, rfl, fun i d hi hd => by have := (List.getElem?_eq_some_iff.1 hd).1; omega⟩
  case round =>
    obtain ⟨j, hj, rfl, hz⟩ := hrel
    have HZ := Lib.hid hz; clear hz
    by_cases hj0 : 0 < j
    · obtain ⟨b, off, rfl, hc⟩ := h3 (by omega)
      obtain ⟨k, rfl⟩ : ∃ k, j = k + 1 := ⟨j - 1, by omega⟩
      obtain ⟨d, hd⟩ : ∃ d, xs[k]? = some d := ⟨_, List.getElem?_eq_getElem (by omega)⟩
      have hcell := hc k d hd
      have HD := Lib.hid hd
      clear hd hc h3
      have hk1 : ((k + 1 : Nat) : Int) - 1 = (k : Int) := by omega
      by_cases hd0 : d = 0
      · have hb : (d == 0) = true := by simpa using hd0
        have H0 := Lib.hid hd0; clear hd0
        go_wp2
        go_round
        case rel => exact ⟨k, by omega, by go_num, trim_back HZ.out (by rw [HD.out, H0.out])⟩
        case measure => simp [intOf]
      · have hb : (d == 0) = false := by simpa using hd0
        have HT := Lib.hid (trim_len HL.out hj HZ.out (Or.inr ⟨by omega, d, by simpa using HD.out, hd0⟩))
        go_wp2
        go_ret
        exact ⟨by rw [← HT.out]; rfl, rfl⟩
    · have HT := Lib.hid (trim_len (j := 0) HL.out (Nat.zero_le _) (by have := HZ.out; rwa [show j = 0 by omega] at this) (Or.inl rfl))
      obtain rfl : j = 0 := by omega
      go_wp2
      go_ret
      exact ⟨by rw [← HT.out]; rfl, rfl⟩


/-- Behind natTrim: the limbs of the value. -/
theorem Own.trim {w : World} {base e c : Nat} {A : Option Addr} {xs : List Int} (h : Own w base e (.slice A xs.length c) xs) (hl : Limbs xs) : Own w base e (.slice A (trimN xs) c) (toL (val xs).toNat) := by
  have h1 := h.cut (trim_le hl)
  have h2 : xs.take (trimN xs) = toL (val xs).toNat := trim_cut hl
  rwa [h2] at h1
theorem Sl.trim {w : World} {c : Nat} {A : Option Addr} {xs : List Int} (h : Sl w (.slice A xs.length c) xs) (hl : Limbs xs) : Sl w (.slice A (trimN xs) c) (toL (val xs).toNat) := by
  have h1 := h.cut (trim_le hl)
  have h2 : xs.take (trimN xs) = toL (val xs).toNat := trim_cut hl
  rwa [h2] at h1


/-- natTrim of a row of the call's own: v reads xs, n is its length. -/
theorem impl_natTrim_own (A : Option Addr) (c n lo : Nat) (xs : List Int) (w : World) (hn : xs.length = n) (h : Own w lo 3 (.slice A n c) xs) (hlm : Limbs xs) :
    Calls Tryz.prog 65 #[.slice A n c] w fun e w' => ∃ r, e = .returned r ∧ Own w' lo 3 r (toL (val xs).toNat) ∧ w = w' := by
  subst hn
  exact (impl_natTrim A c xs w h.sl hlm).mono fun _ _ ⟨he, hw⟩ => ⟨_, he, hw ▸ h.trim hlm, hw⟩
/-- natTrim of anything that reads xs. -/
theorem impl_natTrim_sl (v : Value) (xs : List Int) (w : World) (h : Sl w v xs) (hlm : Limbs xs) :
    Calls Tryz.prog 65 #[v] w fun e w' => ∃ A n c, e = .returned (.slice A n c) ∧ Sl w' (.slice A n c) (toL (val xs).toNat) ∧ w = w' := by
  have hs := h
  obtain ⟨A, c, rfl, h1, h2, h3⟩ := h
  exact (impl_natTrim A c xs w hs hlm).mono fun _ _ ⟨he, hw⟩ => ⟨_, _, _, he, hw ▸ hs.trim hlm, hw⟩

/-- natTrim of a row of the call's own: v reads xs, n is its length. -/
theorem spec_natTrim_own (A : Option Addr) (c n lo : Nat) (xs : List Int) (w : World) (hn : xs.length = n) (h : Own w lo 3 (.slice A n c) xs) (hlm : Limbs xs) :
    Calls Tryz.prog 75 #[.slice A n c] w fun e w' => ∃ r, e = .returned r ∧ Own w' lo 3 r (toL (val xs).toNat) ∧ w = w' := by
  subst hn
  exact (spec_natTrim A c xs w h.sl hlm).mono fun _ _ ⟨he, hw⟩ => ⟨_, he, hw ▸ h.trim hlm, hw⟩
/-- natTrim of anything that reads xs. -/
theorem spec_natTrim_sl (v : Value) (xs : List Int) (w : World) (h : Sl w v xs) (hlm : Limbs xs) :
    Calls Tryz.prog 75 #[v] w fun e w' => ∃ A n c, e = .returned (.slice A n c) ∧ Sl w' (.slice A n c) (toL (val xs).toNat) ∧ w = w' := by
  have hs := h
  obtain ⟨A, c, rfl, h1, h2, h3⟩ := h
  exact (spec_natTrim A c xs w hs hlm).mono fun _ _ ⟨he, hw⟩ => ⟨_, _, _, he, hw ▸ hs.trim hlm, hw⟩


/-- Where the number is too long nothing is handed back. -/
def limN (n : Nat) : Nat := if n < pw 60 then n else 0
theorem limN_lt (n : Nat) : limN n < pw 60 := by
  unfold limN
  split
  · assumption
  · exact pw_pos 60
theorem Own.lim {w : World} {base e n c : Nat} {A : Option Addr} (h : Own w base e (.slice A (toL n).length c) (toL n)) : Own w base e (if n < pw 60 then .slice A (toL n).length c else .slice none 0 0) (toL (limN n)) := by
  unfold limN
  split
  · exact h
  · rw [toL_zero]
    exact Own.nil _ _ _
theorem Sl.lim {w : World} {n c : Nat} {A : Option Addr} (h : Sl w (.slice A (toL n).length c) (toL n)) : Sl w (if n < pw 60 then .slice A (toL n).length c else .slice none 0 0) (toL (limN n)) := by
  unfold limN
  split
  · exact h
  · rw [toL_zero]
    exact (Own.nil w 0 0).sl
/-- The reference's natLimit trims first. -/
theorem spec_natCap (A : Option Addr) (c : Nat) (xs : List Int) (w : World) (h : Sl w (.slice A xs.length c) xs) (hlm : Limbs xs) :
    Calls Tryz.prog 79 #[.slice A xs.length c] w fun e w' => e = .returned (if (val xs).toNat < pw 60 then .slice A (trimN xs) c else .slice none 0 0) ∧ w = w' := by
  have hlt := @toL_len_le (val xs).toNat 60
  change (trimN xs ≤ 60 ↔ _) at hlt
  have hm : xs.length ≤ 9223372036854775807 := by
    obtain ⟨A', c', hv, h1, h2, _⟩ := h
    unfold maxLen at h2
    omega
  have ht := trim_le hlm
  by_cases hb : (val xs).toNat < pw 60
  · rw [if_pos hb]
    have hl := hlt.2 hb
    clear hlt hb
    go_enter Tryz.func79, Tryz.ntmps79
    go_wp2_with fail
    refine (spec_natTrim _ _ xs _ h hlm).mono ?_
    rintro e w1 ⟨rfl, rfl⟩
    go_wp2
    go_ret
    exact ⟨rfl, rfl⟩
  · rw [if_neg hb]
    have hl : 60 < trimN xs := by
      rcases Nat.lt_or_ge 60 (trimN xs) with h1 | h1
      · exact h1
      · exact absurd (hlt.1 h1) hb
    clear hlt hb
    go_enter Tryz.func79, Tryz.ntmps79
    go_wp2_with fail
    refine (spec_natTrim _ _ xs _ h hlm).mono ?_
    rintro e w1 ⟨rfl, rfl⟩
    go_wp2
    go_ret
    exact ⟨rfl, rfl⟩
end Go.Proofs.YticekjagmcphbaaGreatDoor
