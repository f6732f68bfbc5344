/-
  Big ints as integers: a sign and a list of limbs from a number that is made (bigMake, l03Make). Written by an AI agent.
-/
import Derived.Test.YticekjagmcphbaaGreatDoorBigOk
import Derived.Test.YticekjagmcphbaaGreatDoorApp2
import Derived.Test.YticekjagmcphbaaGreatDoorAddF
namespace Go.Proofs.YticekjagmcphbaaGreatDoor
open Go.RowKit

/-- The integer of a sign and a magnitude. -/
def bigZ (s : Bool) (m : Nat) : Int := if s then -(m : Int) else (m : Int)
/-- The integer, or zero if it wants more than sixty limbs. -/
def limZ (z : Int) : Int := if z.natAbs < pw 60 then z else 0
/-- A big int of the call's own, in blocks from lo on, is handed back that is the integer r. -/
def MadeZ (lo : Nat) (r : Int) (w : World) (en : Ending) (w' : World) : Prop :=
  ∃ s A n c, en = .returned (.agg #[.bool s, .slice A n c]) ∧ s = decide (r < 0) ∧ Own w' lo 3 (.slice A n c) (toL r.natAbs) ∧ Below w.heap.size w w'
/-- The same, where it is new. -/
def RetZ (r : Int) (w : World) (en : Ending) (w' : World) : Prop := MadeZ w.heap.size r w en w'
/-- A big int is handed back that can be read as the integer r. -/
def ReadZ (r : Int) (w : World) (en : Ending) (w' : World) : Prop :=
  ∃ s A n c, en = .returned (.agg #[.bool s, .slice A n c]) ∧ s = decide (r < 0) ∧ Sl w' (.slice A n c) (toL r.natAbs) ∧ Below w.heap.size w w'

theorem bigZ_abs (s : Bool) (m : Nat) : (bigZ s m).natAbs = m := by cases s <;> simp [bigZ]
theorem bigZ_neg {s : Bool} {m : Nat} (h : 0 < m) : decide (bigZ s m < 0) = s := by
  cases s
  · simp [bigZ]
  · simp [bigZ]; omega
theorem limZ_small {s : Bool} {m : Nat} (h : m < pw 60) : limZ (bigZ s m) = bigZ s m := by unfold limZ; rw [bigZ_abs, if_pos h]
theorem limZ_big {s : Bool} {m : Nat} (h : ¬ m < pw 60) : limZ (bigZ s m) = 0 := by unfold limZ; rw [bigZ_abs, if_neg h]
theorem limZ_zero : limZ 0 = 0 := by unfold limZ; rw [ite_self]
theorem bigZ_zero (s : Bool) : bigZ s 0 = 0 := by cases s <;> rfl
theorem limZ_lt (z : Int) : (limZ z).natAbs < pw 60 := by
  unfold limZ
  split
  · assumption
  · exact pw_pos 60
theorem limZ_eq {z : Int} (h : z.natAbs < pw 60) : limZ z = z := if_pos h

theorem own_emptyAt {g base e : Nat} (w : World) (hg : g = w.heap.size) (hb : base ≤ w.heap.size) : Own (w.alloc (.cells #[] e)) base e (.slice (some ⟨g, 0, none⟩) 0 0) [] := by
  subst hg
  exact own_empty w hb

/-- What is made of a sign and a slice that reads as toL m. -/
def mkB (s : Bool) (A : Option Addr) (m c : Nat) : Value :=
  if 0 < m ∧ m < pw 60 then .agg #[.bool s, .slice A (toL m).length c] else .agg #[.bool false, .slice none 0 0]
theorem mkB_yes {s : Bool} {A : Option Addr} {m c : Nat} (h : 0 < m ∧ m < pw 60) : mkB s A m c = .agg #[.bool (decide (limZ (bigZ s m) < 0)), .slice A (toL (limZ (bigZ s m)).natAbs).length c] ∧ (limZ (bigZ s m)).natAbs = m := by
  unfold mkB
  rw [if_pos h, limZ_small h.2, bigZ_abs, bigZ_neg h.1]
  exact ⟨rfl, rfl⟩
theorem mkB_no {s : Bool} {A : Option Addr} {m c : Nat} (h : ¬ (0 < m ∧ m < pw 60)) : mkB s A m c = .agg #[.bool (decide (limZ (bigZ s m) < 0)), .slice none 0 0] ∧ limZ (bigZ s m) = 0 := by
  have h0 : limZ (bigZ s m) = 0 := by
    by_cases h1 : m < pw 60
    · rw [limZ_small h1, show m = 0 by omega, bigZ_zero]
    · exact limZ_big h1
  unfold mkB
  rw [if_neg h, h0]
  exact ⟨rfl, rfl⟩
theorem Sl.nil (w : World) : Sl w (.slice none 0 0) [] := ⟨none, 0, rfl, Nat.le_refl _, by simp [maxLen], fun h => by cases h⟩

set_option maxHeartbeats 400000 in
theorem impl_bigMakeV (s : Bool) (A : Option Addr) (m c : Nat) (w : World) (hc : (toL m).length ≤ 9223372036854775807) :
    Calls Tryz.prog 35 #[.bool s, .slice A (toL m).length c] w fun e w' => e = .returned (mkB s A m c) ∧ Below w.heap.size w w' := by
  have hlt := @toL_len_le m 60
  by_cases h0 : m = 0
  · subst h0
    have HR := Lib.hid (show mkB s A 0 c = .agg #[.bool false, .slice none 0 0] by unfold mkB; rw [if_neg (by omega)])
    have hz0 : (toL 0).length = 0 := by rw [toL_zero]; rfl
    clear hlt hc
    rw [hz0]
    clear hz0
    go_enter Tryz.func35, Tryz.ntmps35
    go_wp2
    exact bodyPost_ret (v := .agg #[.bool false, .slice none 0 0]) (by simp [results, Tryz.results35, go_sem]) rfl ⟨by rw [HR.out], (by repeat' (first | (with_reducible exact Below.refl _ _) | (with_reducible refine Below.alloc ?_ ?_ _) | (with_reducible refine Below.setCell ?_ ?_ _) | (with_reducible refine below_drewN ?_ _) | (with_reducible refine Below.drew ?_) | (with_reducible refine below_step (by assumption) ?_ ?_) | omega | (simp; done) | (simp; omega)))⟩
  · have hpos : 0 < (toL m).length := by rw [toL_pos (by omega)]; simp
    have hne : (((toL m).length : Int) == 0) = false := beq_eq_false_iff_ne.2 (by omega)
    by_cases h : m < pw 60
    · have HR := Lib.hid (show mkB s A m c = .agg #[.bool s, .slice A (toL m).length c] by unfold mkB; rw [if_pos ⟨by omega, h⟩])
      have hl : (toL m).length ≤ 60 := hlt.2 h
      clear hlt h h0
      go_enter Tryz.func35, Tryz.ntmps35
      go_wp2
      exact bodyPost_ret (v := .agg #[.bool s, .slice A (toL m).length c]) (by simp [results, Tryz.results35, go_sem]) rfl ⟨by rw [HR.out], (by repeat' (first | (with_reducible exact Below.refl _ _) | (with_reducible refine Below.alloc ?_ ?_ _) | (with_reducible refine Below.setCell ?_ ?_ _) | (with_reducible refine below_drewN ?_ _) | (with_reducible refine Below.drew ?_) | (with_reducible refine below_step (by assumption) ?_ ?_) | omega | (simp; done) | (simp; omega)))⟩
    · have HR := Lib.hid (show mkB s A m c = .agg #[.bool false, .slice none 0 0] by unfold mkB; rw [if_neg (by omega)])
      have hl : 60 < (toL m).length := by
        rcases Nat.lt_or_ge 60 (toL m).length with h1 | h1
        · exact h1
        · exact absurd (hlt.1 h1) h
      clear hlt h h0
      go_enter Tryz.func35, Tryz.ntmps35
      go_wp2
      exact bodyPost_ret (v := .agg #[.bool false, .slice none 0 0]) (by simp [results, Tryz.results35, go_sem]) rfl ⟨by rw [HR.out], (by repeat' (first | (with_reducible exact Below.refl _ _) | (with_reducible refine Below.alloc ?_ ?_ _) | (with_reducible refine Below.setCell ?_ ?_ _) | (with_reducible refine below_drewN ?_ _) | (with_reducible refine Below.drew ?_) | (with_reducible refine below_step (by assumption) ?_ ?_) | omega | (simp; done) | (simp; omega)))⟩
theorem impl_bigMake (s : Bool) (v : Value) (m lo : Nat) (w : World) (h : Own w lo 3 v (toL m)) :
    Calls Tryz.prog 35 #[.bool s, v] w (MadeZ lo (limZ (bigZ s m)) w) := by
  obtain ⟨A, c, rfl, h1, h2, h3⟩ := h.form
  refine (impl_bigMakeV s A m c w (by unfold maxLen at h2; omega)).mono fun _ w' ⟨he, hw⟩ => ?_
  by_cases hm : 0 < m ∧ m < pw 60
  · obtain ⟨e1, e2⟩ := @mkB_yes s A m c hm
    refine ⟨_, _, _, _, by rw [he, e1], rfl, ?_, hw⟩
    rw [e2]
    exact h.below hw
  · obtain ⟨e1, e2⟩ := @mkB_no s A m c hm
    refine ⟨_, _, _, _, by rw [he, e1], rfl, ?_, hw⟩
    rw [e2, show (0 : Int).natAbs = 0 from rfl, toL_zero]
    exact Own.nil _ _ _
theorem impl_bigMakeR (s : Bool) (v : Value) (m : Nat) (w : World) (h : Sl w v (toL m)) :
    Calls Tryz.prog 35 #[.bool s, v] w (ReadZ (limZ (bigZ s m)) w) := by
  have hs := h
  obtain ⟨A, c, rfl, h1, h2, h3⟩ := h
  refine (impl_bigMakeV s A m c w (by unfold maxLen at h2; omega)).mono fun _ w' ⟨he, hw⟩ => ?_
  by_cases hm : 0 < m ∧ m < pw 60
  · obtain ⟨e1, e2⟩ := @mkB_yes s A m c hm
    refine ⟨_, _, _, _, by rw [he, e1], rfl, ?_, hw⟩
    rw [e2]
    exact hs.below hw
  · obtain ⟨e1, e2⟩ := @mkB_no s A m c hm
    refine ⟨_, _, _, _, by rw [he, e1], rfl, ?_, hw⟩
    rw [e2, show (0 : Int).natAbs = 0 from rfl, toL_zero]
    exact Sl.nil _

theorem limZ_lim (s : Bool) (m : Nat) : limZ (bigZ s m) = bigZ s (limN m) := by
  unfold limN
  by_cases h : m < pw 60
  · rw [if_pos h, limZ_small h]
  · rw [if_neg h, limZ_big h, bigZ_zero]
/-- l02Cap of what reads as toL m. -/
def CapR (m : Nat) (w : World) (en : Ending) (w' : World) : Prop := ∃ A n c, en = .returned (.slice A n c) ∧ Sl w' (.slice A n c) (toL (limN m)) ∧ w = w'
theorem spec_capR (v : Value) (m : Nat) (w : World) (h : Sl w v (toL m)) : Calls Tryz.prog 79 #[v] w (CapR m w) := by
  have hs := h
  obtain ⟨A, c, rfl, h1, h2, h3⟩ := h
  have hval : (val (toL m)).toNat = m := by rw [val_toL]; rfl
  refine (spec_natCap A c (toL m) w hs (limbs_toL m)).mono fun _ w' ⟨he, hw⟩ => ?_
  rw [hval] at he
  subst hw
  unfold CapR limN
  by_cases hm : m < pw 60
  · rw [if_pos hm] at he
    refine ⟨_, _, _, he, ?_, rfl⟩
    rw [if_pos hm]
    have htr : trimN (toL m) = (toL m).length := by unfold trimN; rw [hval]
    rw [htr]
    exact hs
  · rw [if_neg hm] at he
    refine ⟨_, _, _, he, ?_, rfl⟩
    rw [if_neg hm, toL_zero]
    exact Sl.nil _
set_option maxHeartbeats 1000000 in
theorem spec_l03Make (s : Bool) (v : Value) (m : Nat) (w : World) (h : Sl w v (toL m)) :
    Calls Tryz.prog 63 #[.bool s, v] w (RetZ (limZ (bigZ s m)) w) := by
  rw [limZ_lim]
  obtain ⟨q, hq⟩ : ∃ q, q = limN m := ⟨_, rfl⟩
  have HC : ∀ W, Sl W v (toL m) → Hid (Calls Tryz.prog 79 #[v] W (fun en w' => ∃ A n c, en = .returned (.slice A n c) ∧ Sl w' (.slice A n c) (toL q) ∧ W = w')) := fun W hW => Lib.hid (by
    subst hq
    exact spec_capR v m W hW)
  have hlen : (toL q).length ≤ 60 := by rw [hq]; exact toL_len_le.2 (limN_lt m)
  rw [← hq]
  have HS := Lib.hid h
  have hp0 : 0 < q → 0 < (toL q).length := fun h => by rw [toL_pos h]; simp
  have HN := Lib.hid (bigZ_abs s q)
  clear h hq
  have hcase : (s = false ∧ false = decide (bigZ s q < 0)) ∨ (s = true ∧ (toL q).length = 0 ∧ false = decide (bigZ s q < 0)) ∨ (s = true ∧ 0 < (toL q).length ∧ true = decide (bigZ s q < 0)) := by
    rcases Nat.eq_zero_or_pos q with h0 | h0
    · subst h0
      rw [bigZ_zero, toL_zero]
      cases s
      · exact .inl ⟨rfl, rfl⟩
      · exact .inr (.inl ⟨rfl, rfl, rfl⟩)
    · rw [bigZ_neg h0]
      cases s
      · exact .inl ⟨rfl, rfl⟩
      · exact .inr (.inr ⟨rfl, hp0 h0, rfl⟩)
  clear hp0
  generalize hL : toL q = L at *
  have HQ := Lib.hid hL
  clear hL
  rcases hcase with ⟨rfl, hr⟩ | ⟨rfl, hl0, hr⟩ | ⟨rfl, hl0, hr⟩
  · have HR := Lib.hid hr
    clear hr
    go_enter Tryz.func63, Tryz.ntmps63
    go_wp2_with fail
    refine (HC _ (HS.out.alloc _)).out.mono ?_
    rintro e w1 ⟨A, n, c, rfl, hs, rfl⟩
    obtain rfl := hs.len
    have H2 := Lib.hid hs
    clear hs
    go_wp2_with (at_builtin; refine wpList_appS _ rfl _ _ rfl Tryz.intP (own_emptyAt _ (by simp) (Nat.le_refl _)) (H2.out.alloc _) rfl rfl (by simp; omega) (by simp) ?_; intro v1 w1 o1 b1 g1; clear g1; obtain ⟨D, cd, hv1, e1, e2, e3⟩ := o1.form; subst hv1; clear e1 e2 e3; have O1 := Lib.hid o1; clear o1; have b2 := ((Below.refl _ _).alloc (Nat.le_refl _) _).trans b1; obtain ⟨hc, hf⟩ := bxcell b2; have hz := b2.size; simp at hz; have z_w1_0 : w.heap.size < w1.heap.size := (by omega))
    exact bodyPost_ret (v := .agg #[.bool false, .slice D ([] ++ L).length cd]) (by simp [results, Tryz.results63, go_sem, *]) rfl ⟨_, _, _, _, rfl, HR.out, (by rw [HN.out, HQ.out]; (try rw [List.nil_append]); exact (by refine Own.rebase (base := w.heap.size + 1) ?_ (by first | omega | (simp; done) | (simp; omega)); have this := O1.out; (try rw [List.nil_append] at this); repeat' (first | (with_reducible refine Own.far ?_ _ _ ?_) | (exact this) | (simp; done) | (simp; omega) | (simpa using this)))), (by repeat' (first | (with_reducible exact Below.refl _ _) | (with_reducible refine Below.alloc ?_ ?_ _) | (with_reducible refine Below.setCell ?_ ?_ _) | (with_reducible refine below_drewN ?_ _) | (with_reducible refine Below.drew ?_) | (with_reducible refine below_step (by assumption) ?_ ?_) | omega | (simp; done) | (simp; omega)))⟩
  · have HR := Lib.hid hr
    obtain rfl : L = [] := List.eq_nil_of_length_eq_zero hl0
    clear hl0
    clear hr
    go_enter Tryz.func63, Tryz.ntmps63
    go_wp2_with fail
    refine (HC _ (HS.out.alloc _)).out.mono ?_
    rintro e w1 ⟨A, n, c, rfl, hs, rfl⟩
    obtain rfl := hs.len
    have H2 := Lib.hid hs
    clear hs
    go_wp2_with (at_builtin; refine wpList_appS _ rfl _ _ rfl Tryz.intP (own_emptyAt _ (by simp) (Nat.le_refl _)) (H2.out.alloc _) rfl rfl (by simp) (by simp) ?_; intro v1 w1 o1 b1 g1; clear g1; obtain ⟨D, cd, hv1, e1, e2, e3⟩ := o1.form; subst hv1; clear e1 e2 e3; have O1 := Lib.hid o1; clear o1; have b2 := ((Below.refl _ _).alloc (Nat.le_refl _) _).trans b1; obtain ⟨hc, hf⟩ := bxcell b2; have hz := b2.size; simp at hz; have z_w1_0 : w.heap.size < w1.heap.size := (by omega))
    exact bodyPost_ret (v := .agg #[.bool false, .slice D 0 cd]) (by simp [results, Tryz.results63, go_sem, *]) rfl ⟨_, _, _, _, rfl, HR.out, (by rw [HN.out, HQ.out]; (try rw [List.nil_append]); exact (by refine Own.rebase (base := w.heap.size + 1) ?_ (by first | omega | (simp; done) | (simp; omega)); have this := O1.out; (try rw [List.nil_append] at this); repeat' (first | (with_reducible refine Own.far ?_ _ _ ?_) | (exact this) | (simp; done) | (simp; omega) | (simpa using this)))), (by repeat' (first | (with_reducible exact Below.refl _ _) | (with_reducible refine Below.alloc ?_ ?_ _) | (with_reducible refine Below.setCell ?_ ?_ _) | (with_reducible refine below_drewN ?_ _) | (with_reducible refine Below.drew ?_) | (with_reducible refine below_step (by assumption) ?_ ?_) | omega | (simp; done) | (simp; omega)))⟩
  · have HR := Lib.hid hr
    clear hr
    go_enter Tryz.func63, Tryz.ntmps63
    go_wp2_with fail
    refine (HC _ (HS.out.alloc _)).out.mono ?_
    rintro e w1 ⟨A, n, c, rfl, hs, rfl⟩
    obtain rfl := hs.len
    have H2 := Lib.hid hs
    clear hs
    go_wp2_with (at_builtin; refine wpList_appS _ rfl _ _ rfl Tryz.intP (own_emptyAt _ (by simp) (Nat.le_refl _)) (H2.out.alloc _) rfl rfl (by simp; omega) (by simp) ?_; intro v1 w1 o1 b1 g1; clear g1; obtain ⟨D, cd, hv1, e1, e2, e3⟩ := o1.form; subst hv1; clear e1 e2 e3; have O1 := Lib.hid o1; clear o1; have b2 := ((Below.refl _ _).alloc (Nat.le_refl _) _).trans b1; obtain ⟨hc, hf⟩ := bxcell b2; have hz := b2.size; simp at hz; have z_w1_0 : w.heap.size < w1.heap.size := (by omega))
    exact bodyPost_ret (v := .agg #[.bool true, .slice D ([] ++ L).length cd]) (by simp [results, Tryz.results63, go_sem, *]) rfl ⟨_, _, _, _, rfl, HR.out, (by rw [HN.out, HQ.out]; (try rw [List.nil_append]); exact (by refine Own.rebase (base := w.heap.size + 1) ?_ (by first | omega | (simp; done) | (simp; omega)); have this := O1.out; (try rw [List.nil_append] at this); repeat' (first | (with_reducible refine Own.far ?_ _ _ ?_) | (exact this) | (simp; done) | (simp; omega) | (simpa using this)))), (by repeat' (first | (with_reducible exact Below.refl _ _) | (with_reducible refine Below.alloc ?_ ?_ _) | (with_reducible refine Below.setCell ?_ ?_ _) | (with_reducible refine below_drewN ?_ _) | (with_reducible refine Below.drew ?_) | (with_reducible refine below_step (by assumption) ?_ ?_) | omega | (simp; done) | (simp; omega)))⟩
end Go.Proofs.YticekjagmcphbaaGreatDoor
