/-
  Making a fraction in the reference: l04One, l04Low. Written by an AI agent.
-/
import Derived.Test.YticekjagmcphbaaGreatDoorRatM
import Derived.Deep.DeepCutAuto
namespace Go.Proofs.YticekjagmcphbaaGreatDoor
open Go.RowKit

def oneB (m : Nat) : Bool := decide (m = 1)
theorem toL_one {m : Nat} (h0 : 0 < m) (h : m < 1000000000) : toL m = [(m : Int)] := by
  rw [toL_pos h0, Nat.div_eq_of_lt h, toL_zero, Nat.mod_eq_of_lt h]
set_option maxHeartbeats 1000000 in
theorem spec_l04One (v : Value) (m : Nat) (w : World) (h : Sl w v (toL m)) :
    Calls Tryz.prog 76 #[v] w fun e w' => e = .returned (.bool (oneB m)) ∧ w = w' := by
  obtain ⟨A, c, rfl, h1, h2, h3⟩ := h
  have hm : (toL m).length ≤ 9223372036854775807 := by unfold maxLen at h2; omega
  clear h1 h2
  by_cases hl : (toL m).length = 1
  · have h9 : m < 1000000000 := toL_len_le.1 (Nat.le_of_eq hl)
    have h0 : 0 < m := by
      rcases Nat.eq_zero_or_pos m with h0 | h0
      · subst h0
        rw [toL_zero] at hl
        cases hl
      · exact h0
    obtain ⟨b, off, rfl, hc⟩ := h3 (by omega)
    have k0 : w.cell? ⟨b, off, none⟩ = some (.int .i64 (m : Int)) := hc 0 (m : Int) (by rw [toL_one h0 h9]; rfl)
    rw [hl]
    clear hc h3 hm hl
    by_cases h : m = 1
    · have HR := Lib.hid (show oneB m = true from decide_eq_true h)
      have hb : ((m : Int) == 1) = true := beq_iff_eq.2 (by omega)
      clear h h9 h0
      go_enter Tryz.func76, Tryz.ntmps76
      go_wp2
      go_ret
      exact ⟨by rw [HR.out]; rfl, rfl⟩
    · have HR := Lib.hid (show oneB m = false from decide_eq_false h)
      have hb : ((m : Int) == 1) = false := beq_eq_false_iff_ne.2 (by omega)
      clear h h9 h0
      go_enter Tryz.func76, Tryz.ntmps76
      go_wp2
      go_ret
      exact ⟨by rw [HR.out]; rfl, rfl⟩
  · have HR := Lib.hid (show oneB m = false from decide_eq_false (fun h => hl (by subst h; rw [toL_one (by omega) (by omega)]; rfl)))
    have hb : (((toL m).length : Int) == 1) = false := beq_eq_false_iff_ne.2 (by omega)
    clear hl h3
    go_enter Tryz.func76, Tryz.ntmps76
    go_wp2
    go_ret
    exact ⟨by rw [HR.out]; rfl, rfl⟩

theorem spec_trim (v : Value) (m : Nat) (w : World) (h : Sl w v (toL m)) :
    Calls Tryz.prog 75 #[v] w fun e w' => ∃ A n c, e = .returned (.slice A n c) ∧ n = (toL m).length ∧ Sl w' (.slice A n c) (toL m) ∧ w = w' := by
  refine (spec_natTrim_sl v _ w h (limbs_toL m)).mono fun e w' ⟨A, n, c, he, hs, hw⟩ => ?_
  rw [val_toL, Int.toNat_natCast] at hs
  exact ⟨A, n, c, he, hs.len, hs, hw⟩
/-- The state behind the division: the numerator q, the denominator p. -/
def LowCut (W : World) (q p : Nat) (x y : Value) (w : World) : Prop :=
  ∃ A c B d, x = .slice A (toL q).length c ∧ y = .slice B (toL p).length d ∧ Sl w (.slice A (toL q).length c) (toL q) ∧ Sl w (.slice B (toL p).length d) (toL p) ∧ Below W.heap.size W w

set_option maxRecDepth 100000 in
set_option maxHeartbeats 4000000 in
theorem spec_low (s : Bool) (u v : Value) (m l : Nat) (w : World) (hu : Sl w u (toL m)) (hv : Sl w v (toL l)) (hm : m < pw 150) (hl : l < pw 150) :
    Calls Tryz.prog 62 #[.bool s, u, v] w (RetQ (ratF s m l) w) := by
  have HU := Lib.hid hu
  have HV := Lib.hid hv
  have hlen : (toL l).length ≤ 150 := toL_len_lt hl
  have hlenm : (toL m).length ≤ 150 := toL_len_lt hm
  have HM := Lib.hid (Nat.lt_of_lt_of_le hm (pw_le (show 150 ≤ 200 by omega)))
  have HL := Lib.hid (Nat.lt_of_lt_of_le hl (pw_le (show 150 ≤ 200 by omega)))
  have HM1 := Lib.hid hm
  have HL1 := Lib.hid hl
  clear hu hv hm hl
  rcases Nat.eq_zero_or_pos l with h0 | h0
  · subst h0
    have HR := Lib.hid (show ratF s m 0 = (0, 0) from ratF_none (by omega))
    have HZ := Lib.hid (show (toL 0).length = 0 by rw [toL_zero]; rfl)
    clear hlen
    go_enter Tryz.func62, Tryz.ntmps62
    go_wp2_with fail
    refine (spec_trim _ m _ (HU.out.below (by repeat' (first | (with_reducible exact Below.refl _ _) | (with_reducible refine Below.alloc ?_ ?_ _) | (with_reducible refine Below.setCell ?_ ?_ _) | (with_reducible refine below_drewN ?_ _) | (with_reducible refine Below.drew ?_) | (with_reducible refine below_step (by assumption) ?_ ?_) | omega | (simp; done) | (simp; omega))))).mono ?_
    rintro e w1 ⟨A1, n1, c1, rfl, hn1, hs1, rfl⟩
    subst hn1
    clear hs1
    go_wp2_with fail
    refine (spec_trim _ 0 _ (HV.out.below (by repeat' (first | (with_reducible exact Below.refl _ _) | (with_reducible refine Below.alloc ?_ ?_ _) | (with_reducible refine Below.setCell ?_ ?_ _) | (with_reducible refine below_drewN ?_ _) | (with_reducible refine Below.drew ?_) | (with_reducible refine below_step (by assumption) ?_ ?_) | omega | (simp; done) | (simp; omega))))).mono ?_
    rintro e w2 ⟨A2, n2, c2, rfl, hn2, hs2, rfl⟩
    rw [HZ.out] at hn2
    subst hn2
    clear hs2
    go_wp2
    exact bodyPost_ret (v := .agg #[.bool false, .slice none 0 0, .slice none 0 0]) (by simp [results, Tryz.results62, go_sem, *]) rfl (retq_zero HR.out (by repeat' (first | (with_reducible exact Below.refl _ _) | (with_reducible refine Below.alloc ?_ ?_ _) | (with_reducible refine Below.setCell ?_ ?_ _) | (with_reducible refine below_drewN ?_ _) | (with_reducible refine Below.drew ?_) | (with_reducible refine below_step (by assumption) ?_ ?_) | omega | (simp; done) | (simp; omega))))
  obtain ⟨g, hg⟩ : ∃ g, g = Nat.gcd m l := ⟨_, rfl⟩
  have G0 : 0 < g := by rw [hg]; exact gcd_pos h0
  have HG := Lib.hid hg
  have HG0 := Lib.hid G0
  have H0 := Lib.hid h0
  have hb0 : (((toL l).length : Int) == 0) = false := beq_eq_false_iff_ne.2 (by have := toL_len_pos h0; omega)
  have HGL := Lib.hid (show g < pw 150 by rw [hg]; exact gcd_lt HM1.out HL1.out)
  clear hg G0 h0
  obtain ⟨q, hq⟩ : ∃ q, q = m / g := ⟨_, rfl⟩
  obtain ⟨p, hp⟩ : ∃ p, p = l / g := ⟨_, rfl⟩
  have HQ := Lib.hid hq
  have HP := Lib.hid hp
  clear hq hp
  have HF := Lib.hid (show ratF s m l = if 0 < l ∧ q < pw 24 ∧ p < pw 24 then (bigZ s q, p) else (0, 0) by unfold ratF; rw [HQ.out, HP.out, HG.out])
  have hlq : (toL q).length ≤ 150 := by rw [HQ.out]; exact toL_len_lt (Nat.lt_of_le_of_lt (Nat.div_le_self _ _) HM1.out)
  have hlp : (toL p).length ≤ 150 := by rw [HP.out]; exact toL_len_lt (Nat.lt_of_le_of_lt (Nat.div_le_self _ _) HL1.out)
  go_enter Tryz.func62, Tryz.ntmps62
  go_wp2_with fail
  refine (spec_trim _ m _ (HU.out.below (by repeat' (first | (with_reducible exact Below.refl _ _) | (with_reducible refine Below.alloc ?_ ?_ _) | (with_reducible refine Below.setCell ?_ ?_ _) | (with_reducible refine below_drewN ?_ _) | (with_reducible refine Below.drew ?_) | (with_reducible refine below_step (by assumption) ?_ ?_) | omega | (simp; done) | (simp; omega))))).mono ?_
  rintro e w1 ⟨A1, n1, c1, rfl, hn1, hs1, rfl⟩
  subst hn1
  have HS1 := Lib.hid hs1
  clear hs1
  go_wp2_with fail
  refine (spec_trim _ l _ (HV.out.below (by repeat' (first | (with_reducible exact Below.refl _ _) | (with_reducible refine Below.alloc ?_ ?_ _) | (with_reducible refine Below.setCell ?_ ?_ _) | (with_reducible refine below_drewN ?_ _) | (with_reducible refine Below.drew ?_) | (with_reducible refine below_step (by assumption) ?_ ?_) | omega | (simp; done) | (simp; omega))))).mono ?_
  rintro e w2 ⟨A2, n2, c2, rfl, hn2, hs2, rfl⟩
  subst hn2
  have HS2 := Lib.hid hs2
  clear hs2
  go_wp2_with fail
  refine (spec_l04One _ l _ HS2.out).mono ?_
  rintro e w3 ⟨rfl, rfl⟩
  go_upto_if 20 with fail
  go_cut [7, 8] (fun x y wx => LowCut (w.alloc (.cells #[.bool false, .slice none 0 0, .slice none 0 0] 27)) q p x y wx)
  case first =>
    cases h1 : oneB l with
    | true =>
      have HQ1 := Lib.hid (show q = m ∧ p = l by
        have hl1 : l = 1 := by simpa [oneB] using h1
        rw [HQ.out, HP.out, HG.out, hl1]
        simp)
      go_wp2_with fail
      go_meet
      exact ⟨_, _, _, _, by rw [HQ1.out.1], by rw [HQ1.out.2], by rw [HQ1.out.1]; exact HS1.out, by rw [HQ1.out.2]; exact HS2.out, (by repeat' (first | (with_reducible exact Below.refl _ _) | (with_reducible refine Below.alloc ?_ ?_ _) | (with_reducible refine Below.setCell ?_ ?_ _) | (with_reducible refine below_drewN ?_ _) | (with_reducible refine Below.drew ?_) | (with_reducible refine below_step (by assumption) ?_ ?_) | omega | (simp; done) | (simp; omega)))⟩
    | false =>
      go_wp2_with fail
      (with_reducible refine (spec_natGcd _ _ m l _ HS1.out HS2.out HM1.out HL1.out).mono ?_); rintro e w4 ⟨r4, rfl, o4, b4⟩; obtain ⟨hc4, hf4⟩ := bxcell b4; have q4_0 := fun o => hc4 (w.heap.size) o (by first | omega | (simp; done) | (simp; omega)); have f4_0 := fun o => hf4 (w.heap.size) o (by first | omega | (simp; done) | (simp; omega)); have hz4 := b4.size; (try simp at hz4); have z4_0 : w.heap.size < w4.heap.size := (by omega); have n4_0 := Nat.ne_of_lt z4_0; have m4_0 := (Nat.ne_of_lt z4_0).symm
      rw [← HG.out] at o4
      have O4 := Lib.hid o4.sl
      clear o4
      go_wp2_with fail
      refine (spec_l04One _ g _ O4.out).mono ?_
      rintro e w5 ⟨rfl, rfl⟩
      cases h2 : oneB g with
      | true =>
        have HQ1 := Lib.hid (show q = m ∧ p = l by
          have hl1 : g = 1 := by simpa [oneB] using h2
          rw [HQ.out, HP.out, hl1]
          simp)
        go_wp2_with fail
        go_meet
        exact ⟨_, _, _, _, by rw [HQ1.out.1], by rw [HQ1.out.2], by rw [HQ1.out.1]; exact HS1.out.below (by repeat' (first | (with_reducible exact Below.refl _ _) | (with_reducible refine Below.alloc ?_ ?_ _) | (with_reducible refine Below.setCell ?_ ?_ _) | (with_reducible refine below_drewN ?_ _) | (with_reducible refine Below.drew ?_) | (with_reducible refine below_step (by assumption) ?_ ?_) | omega | (simp; done) | (simp; omega))), by rw [HQ1.out.2]; exact HS2.out.below (by repeat' (first | (with_reducible exact Below.refl _ _) | (with_reducible refine Below.alloc ?_ ?_ _) | (with_reducible refine Below.setCell ?_ ?_ _) | (with_reducible refine below_drewN ?_ _) | (with_reducible refine Below.drew ?_) | (with_reducible refine below_step (by assumption) ?_ ?_) | omega | (simp; done) | (simp; omega))), (by repeat' (first | (with_reducible exact Below.refl _ _) | (with_reducible refine Below.alloc ?_ ?_ _) | (with_reducible refine Below.setCell ?_ ?_ _) | (with_reducible refine below_drewN ?_ _) | (with_reducible refine Below.drew ?_) | (with_reducible refine below_step (by assumption) ?_ ?_) | omega | (simp; done) | (simp; omega)))⟩
      | false =>
        go_wp2_with fail
        (with_reducible refine (spec_quo _ _ m g q _ (HS1.out.below (by repeat' (first | (with_reducible exact Below.refl _ _) | (with_reducible refine Below.alloc ?_ ?_ _) | (with_reducible refine Below.setCell ?_ ?_ _) | (with_reducible refine below_drewN ?_ _) | (with_reducible refine Below.drew ?_) | (with_reducible refine below_step (by assumption) ?_ ?_) | omega | (simp; done) | (simp; omega)))) (O4.out.below (by repeat' (first | (with_reducible exact Below.refl _ _) | (with_reducible refine Below.alloc ?_ ?_ _) | (with_reducible refine Below.setCell ?_ ?_ _) | (with_reducible refine below_drewN ?_ _) | (with_reducible refine Below.drew ?_) | (with_reducible refine below_step (by assumption) ?_ ?_) | omega | (simp; done) | (simp; omega)))) HG0.out HM.out HGL.out HQ.out).mono ?_); rintro e w6 ⟨A6, n6, c6, s6, lo6, hi6, rfl, hn6, o6, la6, lb6, lc6, b6⟩; obtain ⟨hc6, hf6⟩ := bxcell b6; have q6_0 := fun o => hc6 (w.heap.size) o (by first | omega | (simp; done) | (simp; omega)); have f6_0 := fun o => hf6 (w.heap.size) o (by first | omega | (simp; done) | (simp; omega)); have hz6 := b6.size; (try simp at hz6); have z6_0 : w.heap.size < w6.heap.size := (by omega); have n6_0 := Nat.ne_of_lt z6_0; have m6_0 := (Nat.ne_of_lt z6_0).symm; have O6 := Lib.hid o6; clear o6
        subst hn6
        go_wp2_with fail
        (with_reducible refine (spec_quo _ _ l g p _ (HS2.out.below (by repeat' (first | (with_reducible exact Below.refl _ _) | (with_reducible refine Below.alloc ?_ ?_ _) | (with_reducible refine Below.setCell ?_ ?_ _) | (with_reducible refine below_drewN ?_ _) | (with_reducible refine Below.drew ?_) | (with_reducible refine below_step (by assumption) ?_ ?_) | omega | (simp; done) | (simp; omega)))) (O4.out.below (by repeat' (first | (with_reducible exact Below.refl _ _) | (with_reducible refine Below.alloc ?_ ?_ _) | (with_reducible refine Below.setCell ?_ ?_ _) | (with_reducible refine below_drewN ?_ _) | (with_reducible refine Below.drew ?_) | (with_reducible refine below_step (by assumption) ?_ ?_) | omega | (simp; done) | (simp; omega)))) HG0.out HL.out HGL.out HP.out).mono ?_); rintro e w7 ⟨A7, n7, c7, s7, lo7, hi7, rfl, hn7, o7, la7, lb7, lc7, b7⟩; obtain ⟨hc7, hf7⟩ := bxcell b7; have q7_0 := fun o => hc7 (w.heap.size) o (by first | omega | (simp; done) | (simp; omega)); have f7_0 := fun o => hf7 (w.heap.size) o (by first | omega | (simp; done) | (simp; omega)); have hz7 := b7.size; (try simp at hz7); have z7_0 : w.heap.size < w7.heap.size := (by omega); have n7_0 := Nat.ne_of_lt z7_0; have m7_0 := (Nat.ne_of_lt z7_0).symm; have O7 := Lib.hid o7; clear o7
        subst hn7
        go_wp2_with fail
        go_meet
        exact ⟨_, _, _, _, rfl, rfl, (O6.out.sl).below (by repeat' (first | (with_reducible exact Below.refl _ _) | (with_reducible refine Below.alloc ?_ ?_ _) | (with_reducible refine Below.setCell ?_ ?_ _) | (with_reducible refine below_drewN ?_ _) | (with_reducible refine Below.drew ?_) | (with_reducible refine below_step (by assumption) ?_ ?_) | omega | (simp; done) | (simp; omega))), O7.out.sl, (by repeat' (first | (with_reducible exact Below.refl _ _) | (with_reducible refine Below.alloc ?_ ?_ _) | (with_reducible refine Below.setCell ?_ ?_ _) | (with_reducible refine below_drewN ?_ _) | (with_reducible refine Below.drew ?_) | (with_reducible refine below_step (by assumption) ?_ ?_) | omega | (simp; done) | (simp; omega)))⟩
  case rest =>
    rename World => w3
    obtain ⟨A, c, B, d, rfl, rfl, hx, hy, hb⟩ := hcut
    have HX := Lib.hid hx
    have HY := Lib.hid hy
    clear hx hy
    have hz := hb.size
    simp at hz
    have z0 : w.heap.size < w3.heap.size := by omega
    have k0 : w3.cell? ⟨w.heap.size, 0, none⟩ = some (.bool false) := by rw [(bxcell hb).1 _ _ (by first | omega | (simp; done) | (simp; omega))]; simp [go_sem]
    have k1 : w3.cell? ⟨w.heap.size, 1, none⟩ = some (.slice none 0 0) := by rw [(bxcell hb).1 _ _ (by first | omega | (simp; done) | (simp; omega))]; simp [go_sem]
    have k2 : w3.cell? ⟨w.heap.size, 2, none⟩ = some (.slice none 0 0) := by rw [(bxcell hb).1 _ _ (by first | omega | (simp; done) | (simp; omega))]; simp [go_sem]
    have f0 : w3.frozen? ⟨w.heap.size, 0, none⟩ = false := by rw [(bxcell hb).2 _ _ (by first | omega | (simp; done) | (simp; omega))]; simp [go_sem]
    have f1 : w3.frozen? ⟨w.heap.size, 1, none⟩ = false := by rw [(bxcell hb).2 _ _ (by first | omega | (simp; done) | (simp; omega))]; simp [go_sem]
    have f2 : w3.frozen? ⟨w.heap.size, 2, none⟩ = false := by rw [(bxcell hb).2 _ _ (by first | omega | (simp; done) | (simp; omega))]; simp [go_sem]
    by_cases h1 : q < pw 24
    · have h1' := len24.2 h1
      by_cases h2 : p < pw 24
      · have h2' := len24.2 h2
        have HR := Lib.hid (HF.out.trans (if_pos ⟨H0.out, h1, h2⟩))
        have H1 := Lib.hid (show q < pw 60 from Nat.lt_of_lt_of_le h1 (pw_le (by omega)))
        clear h1 h2
        go_wp2_with fail
        (with_reducible refine (spec_l03Make s _ q _ HX.out).mono ?_); rintro e w4 ⟨u4, A4, n4, c4, rfl, hu4, o4, b4⟩; obtain ⟨hc4, hf4⟩ := bxcell b4; have q4_0 := fun o => hc4 (w.heap.size) o (by first | omega | (simp; done) | (simp; omega)); have f4_0 := fun o => hf4 (w.heap.size) o (by first | omega | (simp; done) | (simp; omega)); have hz4 := b4.size; (try simp at hz4); have z4_0 : w.heap.size < w4.heap.size := (by omega); have n4_0 := Nat.ne_of_lt z4_0; have m4_0 := (Nat.ne_of_lt z4_0).symm
        rw [limZ_small H1.out] at hu4 o4
        rw [bigZ_abs] at o4
        have HU4 := Lib.hid hu4
        have O4 := Lib.hid (OwnR.of o4)
        have HY4 := Lib.hid (HY.out.below b4)
        clear o4 hu4
        go_wp2_with (at_builtin; refine wpList_appS _ rfl _ _ rfl Tryz.intP (own_emptyAt _ (by simp) (Nat.le_refl _)) (HY4.out.alloc _) rfl rfl (by simp; omega) (by simp) ?_; intro v5 w5 o5 b5 g5; clear g5; obtain ⟨D, cd, hv5, e1, e2, e3⟩ := o5.form; subst hv5; clear e1 e2 e3; rw [List.nil_append] at o5; have O5 := Lib.hid (OwnR.of o5); clear o5; have b6 := ((Below.refl _ _).alloc (Nat.le_refl _) _).trans b5; obtain ⟨hc5, hf5⟩ := bxcell b6; have hz5 := b6.size; (try simp at hz5); have z5 : w.heap.size < w5.heap.size := by omega)
        exact bodyPost_ret (v := .agg #[.bool u4, .slice A4 n4 c4, .slice D ([] ++ toL p).length cd]) (by simp [results, Tryz.results62, go_sem, *]) rfl (retq_made HR.out HU4.out (bigZ_abs _ _) (PairR.mk' (lo1 := w3.heap.size) (hi1 := w4.heap.size) (lo2 := w4.heap.size) (hi2 := w5.heap.size) (by have hfar := O4.out.below b6 (Nat.le_refl _); repeat' (first | (with_reducible exact hfar) | (with_reducible refine OwnR.far ?_ _ _ ?_) | (with_reducible refine OwnR.allocd ?_ _ ?_) | (left; first | omega | (simp; done) | (simp; omega)) | (right; first | omega | (simp; done) | (simp; omega)) | omega | (simp; done) | (simp; omega) | (exact hfar))) (by have hfar := O5.out; repeat' (first | (with_reducible exact hfar) | (with_reducible refine OwnR.far ?_ _ _ ?_) | (with_reducible refine OwnR.allocd ?_ _ ?_) | (left; first | omega | (simp; done) | (simp; omega)) | (right; first | omega | (simp; done) | (simp; omega)) | omega | (simp; done) | (simp; omega) | (exact hfar))) (by first | omega | (simp; done) | (simp; omega)) (by first | omega | (simp; done) | (simp; omega)) (.inl (Nat.le_refl _)) (by first | omega | (simp; done) | (simp; omega)) (by first | omega | (simp; done) | (simp; omega)) (by first | omega | (simp; done) | (simp; omega)) (by first | omega | (simp; done) | (simp; omega))) (by repeat' (first | (with_reducible exact Below.refl _ _) | (with_reducible refine Below.alloc ?_ ?_ _) | (with_reducible refine Below.setCell ?_ ?_ _) | (with_reducible refine below_drewN ?_ _) | (with_reducible refine Below.drew ?_) | (with_reducible refine below_step (by assumption) ?_ ?_) | omega | (simp; done) | (simp; omega))))
      · have h2' := len24' h2
        have HR := Lib.hid (HF.out.trans (if_neg (fun h => h2 h.2.2)))
        clear h1 h2
        go_wp2
        exact bodyPost_ret (v := .agg #[.bool false, .slice none 0 0, .slice none 0 0]) (by simp [results, Tryz.results62, go_sem, *]) rfl (retq_zero HR.out (by repeat' (first | (with_reducible exact Below.refl _ _) | (with_reducible refine Below.alloc ?_ ?_ _) | (with_reducible refine Below.setCell ?_ ?_ _) | (with_reducible refine below_drewN ?_ _) | (with_reducible refine Below.drew ?_) | (with_reducible refine below_step (by assumption) ?_ ?_) | omega | (simp; done) | (simp; omega))))
    · have h1' := len24' h1
      have HR := Lib.hid (HF.out.trans (if_neg (fun h => h1 h.2.1)))
      clear h1
      go_wp2
      exact bodyPost_ret (v := .agg #[.bool false, .slice none 0 0, .slice none 0 0]) (by simp [results, Tryz.results62, go_sem, *]) rfl (retq_zero HR.out (by repeat' (first | (with_reducible exact Below.refl _ _) | (with_reducible refine Below.alloc ?_ ?_ _) | (with_reducible refine Below.setCell ?_ ?_ _) | (with_reducible refine below_drewN ?_ _) | (with_reducible refine Below.drew ?_) | (with_reducible refine below_step (by assumption) ?_ ?_) | omega | (simp; done) | (simp; omega))))
end Go.Proofs.YticekjagmcphbaaGreatDoor
