/-
  Contract: ParseRat of package spec. Written by an AI agent.
-/
import Derived.Test.YticekjagmcphbaaDoorParseR
namespace Go.Proofs.YticekjagmcphbaaDoor
open Go.RowKit

set_option maxHeartbeats 8000000 in
theorem spec_ParseRat (s : ByteArray) (w : World) (hs : s.size ≤ 1048576) (ht : Tab w) :
    Calls Tryd.prog 30 #[.string s] w (RetQB 3 (parseRatF s) w) := by
  have HT := Lib.hid ht
  clear ht
  have hpos := splitF_pos s ⟨#[47]⟩
  have hlen := splitF_len s ⟨#[47]⟩
  have HPS := Lib.hid (fun a => @part_size s ⟨#[47]⟩ a)
  obtain ⟨L, hL⟩ : ∃ L, splitF s ⟨#[47]⟩ = L := ⟨_, rfl⟩
  have HL := Lib.hid hL
  rw [hL] at hpos hlen HPS
  rcases L with _ | ⟨a, _ | ⟨b, r⟩⟩
  · cases hpos
  · have HSA := Lib.hid (HPS.out a (by simp))
    obtain ⟨z, ok, hz⟩ : ∃ z ok, parseBigF a = (z, ok) := ⟨_, _, rfl⟩
    have HZ := Lib.hid hz
    have HC := Lib.hid (show ratCand s = (z, [1], ok) by rw [cand_one hL, hz])
    clear hL hz hpos hlen HPS
    cases ok with
    | false =>
      have HR := Lib.hid (pr_bad (s := s) (by rw [HC.out]))
      go_enter Tryd.func30, Tryd.ntmps30
      go_wp2_with fail
      (with_reducible refine (spec_SplitAny s ⟨#[47]⟩ _ hs (by unfold maxLen; decide)).mono ?_); rintro e w1 ⟨r1, rfl, o1, b1⟩; obtain ⟨hc1, hf1⟩ := bxcell b1; have q1_0 := fun o => hc1 (w.heap.size) o (by first | omega | (simp; done) | (simp; omega)); have f1_0 := fun o => hf1 (w.heap.size) o (by first | omega | (simp; done) | (simp; omega)); have hz1 := b1.size; (try simp at hz1); have z1_0 : w.heap.size < w1.heap.size := (by omega); have n1_0 := Nat.ne_of_lt z1_0; have m1_0 := (Nat.ne_of_lt z1_0).symm
      rw [HL.out] at o1
      obtain ⟨D1, d1, hv1, _, f1, g1⟩ := o1.form
      subst hv1
      obtain ⟨g, rfl, ga, gb⟩ := g1 (by simp)
      have SL := o1.sl
      obtain ⟨_, _, hvv, _, _, hcc⟩ := SL
      cases hvv
      obtain ⟨g', off', hgg, hcl⟩ := hcc (by simp)
      cases hgg
      have k1_0 : w1.cell? ⟨g, 0, none⟩ = some (.string a) := by simpa using hcl 0 a rfl
      clear hcl hcc
      clear o1 g1 f1
      go_wp2_with fail
      (with_reducible refine (spec_ParseBigInt a _ (by have := HSA.out; omega)).mono ?_); rintro e w2 ⟨A2, n2, c2, rfl, o2, b2⟩; obtain ⟨hc2, hf2⟩ := bxcell b2; have q2_0 := fun o => hc2 (w.heap.size) o (by first | omega | (simp; done) | (simp; omega)); have f2_0 := fun o => hf2 (w.heap.size) o (by first | omega | (simp; done) | (simp; omega)); have hz2 := b2.size; (try simp at hz2); have z2_0 : w.heap.size < w2.heap.size := (by omega); have n2_0 := Nat.ne_of_lt z2_0; have m2_0 := (Nat.ne_of_lt z2_0).symm
      have ca1_2_0 := ca1 z2_0
      have ca2_2_0 := ca2 z2_0
      have ca3_2_0 := ca3 z2_0
      have fz2_0 : ∀ o, w2.frozen? ⟨w.heap.size, o, none⟩ = false := fun o => by rw [f2_0, f1_0]; simp [go_sem]
      clear f1_0 f2_0 hf1 hf2
      have hfa := fun (u : World) (c : Array Value) (t : TypeId) (o : Nat) => frozen?_alloc_cells u c t ⟨w.heap.size, o, none⟩
      have nn2_0 : w.heap.size ≠ w2.heap.size + 1 := by omega
      have mm2_0 : w2.heap.size + 1 ≠ w.heap.size := by omega
      have nn2_1 : w.heap.size ≠ w2.heap.size + 1 + 1 := by omega
      have mm2_1 : w2.heap.size + 1 + 1 ≠ w.heap.size := by omega
      rw [HZ.out] at o2 ⊢
      have O2 := Lib.hid ((OwnR.of o2).wide (lo' := w1.heap.size) (by first | omega | (simp; done) | (simp; omega)) (Nat.le_refl _))
      clear o2
      go_wp2
      refine bodyPost_ret (v := .tuple #[.agg #[.bool false, .slice none 0 0, .slice none 0 0], .bool false]) ?_ ?_ ?_
      · simp [results, Tryd.results30, go_sem, *]
      · rfl
      · exact retqb_no HR.out (by repeat' (first | (with_reducible exact Below.refl _ _) | (with_reducible refine Below.alloc ?_ ?_ _) | (with_reducible refine Below.setCell ?_ ?_ _) | (with_reducible refine below_drewN ?_ _) | (with_reducible refine Below.drew ?_) | (with_reducible refine below_step (by assumption) ?_ ?_) | omega | (simp; done) | (simp; omega)))
    | true =>
      go_enter Tryd.func30, Tryd.ntmps30
      go_wp2_with fail
      (with_reducible refine (spec_SplitAny s ⟨#[47]⟩ _ hs (by unfold maxLen; decide)).mono ?_); rintro e w1 ⟨r1, rfl, o1, b1⟩; obtain ⟨hc1, hf1⟩ := bxcell b1; have q1_0 := fun o => hc1 (w.heap.size) o (by first | omega | (simp; done) | (simp; omega)); have f1_0 := fun o => hf1 (w.heap.size) o (by first | omega | (simp; done) | (simp; omega)); have hz1 := b1.size; (try simp at hz1); have z1_0 : w.heap.size < w1.heap.size := (by omega); have n1_0 := Nat.ne_of_lt z1_0; have m1_0 := (Nat.ne_of_lt z1_0).symm
      rw [HL.out] at o1
      obtain ⟨D1, d1, hv1, _, f1, g1⟩ := o1.form
      subst hv1
      obtain ⟨g, rfl, ga, gb⟩ := g1 (by simp)
      have SL := o1.sl
      obtain ⟨_, _, hvv, _, _, hcc⟩ := SL
      cases hvv
      obtain ⟨g', off', hgg, hcl⟩ := hcc (by simp)
      cases hgg
      have k1_0 : w1.cell? ⟨g, 0, none⟩ = some (.string a) := by simpa using hcl 0 a rfl
      clear hcl hcc
      clear o1 g1 f1
      go_wp2_with fail
      (with_reducible refine (spec_ParseBigInt a _ (by have := HSA.out; omega)).mono ?_); rintro e w2 ⟨A2, n2, c2, rfl, o2, b2⟩; obtain ⟨hc2, hf2⟩ := bxcell b2; have q2_0 := fun o => hc2 (w.heap.size) o (by first | omega | (simp; done) | (simp; omega)); have f2_0 := fun o => hf2 (w.heap.size) o (by first | omega | (simp; done) | (simp; omega)); have hz2 := b2.size; (try simp at hz2); have z2_0 : w.heap.size < w2.heap.size := (by omega); have n2_0 := Nat.ne_of_lt z2_0; have m2_0 := (Nat.ne_of_lt z2_0).symm
      have ca1_2_0 := ca1 z2_0
      have ca2_2_0 := ca2 z2_0
      have ca3_2_0 := ca3 z2_0
      have fz2_0 : ∀ o, w2.frozen? ⟨w.heap.size, o, none⟩ = false := fun o => by rw [f2_0, f1_0]; simp [go_sem]
      clear f1_0 f2_0 hf1 hf2
      have hfa := fun (u : World) (c : Array Value) (t : TypeId) (o : Nat) => frozen?_alloc_cells u c t ⟨w.heap.size, o, none⟩
      have nn2_0 : w.heap.size ≠ w2.heap.size + 1 := by omega
      have mm2_0 : w2.heap.size + 1 ≠ w.heap.size := by omega
      have nn2_1 : w.heap.size ≠ w2.heap.size + 1 + 1 := by omega
      have mm2_1 : w2.heap.size + 1 + 1 ≠ w.heap.size := by omega
      rw [HZ.out] at o2 ⊢
      have O2 := Lib.hid ((OwnR.of o2).wide (lo' := w1.heap.size) (by first | omega | (simp; done) | (simp; omega)) (Nat.le_refl _))
      clear o2
      have OL := Lib.hid (own_lit1 (w2.alloc (.cells #[.bool (decide (z < 0)), .slice A2 n2 c2] 33)) (b := w2.heap.size + 1) (e := 3) (by simp))
      cases hok : ratOkB (decide (z < 0)) (toL z.natAbs) [1] with
      | false =>
        have HR := Lib.hid (pr_notok HC.out hok)
        have HE := Lib.hid (fmtRat_no hok)
        go_wp2_with fail
        (with_reducible refine (spec_FormatRat (decide (z < 0)) A2 (some ⟨w2.heap.size + 1, 0, none⟩) n2 c2 1 1 (toL z.natAbs) [1] _ (OwnR.here O2.out (by repeat' (first | (with_reducible exact Below.refl _ _) | (with_reducible refine Below.alloc ?_ ?_ _) | (with_reducible refine Below.setCell ?_ ?_ _) | (with_reducible refine below_drewN ?_ _) | (with_reducible refine Below.drew ?_) | (with_reducible refine below_step (by assumption) ?_ ?_) | omega | (simp; done) | (simp; omega)))).sl (OwnR.here OL.out (by repeat' (first | (with_reducible exact Below.refl _ _) | (with_reducible refine Below.alloc ?_ ?_ _) | (with_reducible refine Below.setCell ?_ ?_ _) | (with_reducible refine below_drewN ?_ _) | (with_reducible refine Below.drew ?_) | (with_reducible refine below_step (by assumption) ?_ ?_) | omega | (simp; done) | (simp; omega)))).sl (HT.out.below (by repeat' (first | (with_reducible exact Below.refl _ _) | (with_reducible refine Below.alloc ?_ ?_ _) | (with_reducible refine Below.setCell ?_ ?_ _) | (with_reducible refine below_drewN ?_ _) | (with_reducible refine Below.drew ?_) | (with_reducible refine below_step (by assumption) ?_ ?_) | omega | (simp; done) | (simp; omega))))).mono ?_); rintro e w3 ⟨rfl, b3⟩; obtain ⟨hc3, hf3⟩ := bxcell b3; have q3_0 := fun o => hc3 (w.heap.size) o (by first | omega | (simp; done) | (simp; omega)); have q3_1 := fun o => hc3 (w2.heap.size + 1 + 1) o (by first | omega | (simp; done) | (simp; omega)); have f3_0 := fun o => hf3 (w.heap.size) o (by first | omega | (simp; done) | (simp; omega)); have f3_1 := fun o => hf3 (w2.heap.size + 1 + 1) o (by first | omega | (simp; done) | (simp; omega)); have hz3 := b3.size; (try simp at hz3); have z3_0 : w.heap.size < w3.heap.size := (by omega); have n3_0 := Nat.ne_of_lt z3_0; have m3_0 := (Nat.ne_of_lt z3_0).symm; have z3_1 : w2.heap.size + 1 + 1 < w3.heap.size := (by omega); have n3_1 := Nat.ne_of_lt z3_1; have m3_1 := (Nat.ne_of_lt z3_1).symm
        rw [HE.out]
        have hem : (⟨#[]⟩ : ByteArray).toList.isEmpty = true := str_isE rfl
        go_wp2
        refine bodyPost_ret (v := .tuple #[.agg #[.bool false, .slice none 0 0, .slice none 0 0], .bool false]) ?_ ?_ ?_
        · simp [results, Tryd.results30, go_sem, *]
        · rfl
        · exact retqb_no HR.out (by repeat' (first | (with_reducible exact Below.refl _ _) | (with_reducible refine Below.alloc ?_ ?_ _) | (with_reducible refine Below.setCell ?_ ?_ _) | (with_reducible refine below_drewN ?_ _) | (with_reducible refine Below.drew ?_) | (with_reducible refine below_step (by assumption) ?_ ?_) | omega | (simp; done) | (simp; omega)))
      | true =>
        obtain ⟨F, hF⟩ : ∃ F, F = fmtRatF (decide (z < 0)) (toL z.natAbs) [1] := ⟨_, rfl⟩
        have HF := Lib.hid hF
        by_cases hfs : F = s
        · have HR := Lib.hid (pr_yes HC.out hok (by rw [← hF]; exact hfs))
          have hcmp := str_eq hfs
          have hem := str_noE (show ¬ F = ⟨#[]⟩ by rw [hF]; intro h9; rw [fmtRat_empty.1 h9] at hok; cases hok)
          have HOK := Lib.hid hok
          clear hfs hF hok
          go_wp2_with fail
          (with_reducible refine (spec_FormatRat (decide (z < 0)) A2 (some ⟨w2.heap.size + 1, 0, none⟩) n2 c2 1 1 (toL z.natAbs) [1] _ (OwnR.here O2.out (by repeat' (first | (with_reducible exact Below.refl _ _) | (with_reducible refine Below.alloc ?_ ?_ _) | (with_reducible refine Below.setCell ?_ ?_ _) | (with_reducible refine below_drewN ?_ _) | (with_reducible refine Below.drew ?_) | (with_reducible refine below_step (by assumption) ?_ ?_) | omega | (simp; done) | (simp; omega)))).sl (OwnR.here OL.out (by repeat' (first | (with_reducible exact Below.refl _ _) | (with_reducible refine Below.alloc ?_ ?_ _) | (with_reducible refine Below.setCell ?_ ?_ _) | (with_reducible refine below_drewN ?_ _) | (with_reducible refine Below.drew ?_) | (with_reducible refine below_step (by assumption) ?_ ?_) | omega | (simp; done) | (simp; omega)))).sl (HT.out.below (by repeat' (first | (with_reducible exact Below.refl _ _) | (with_reducible refine Below.alloc ?_ ?_ _) | (with_reducible refine Below.setCell ?_ ?_ _) | (with_reducible refine below_drewN ?_ _) | (with_reducible refine Below.drew ?_) | (with_reducible refine below_step (by assumption) ?_ ?_) | omega | (simp; done) | (simp; omega))))).mono ?_); rintro e w3 ⟨rfl, b3⟩; obtain ⟨hc3, hf3⟩ := bxcell b3; have q3_0 := fun o => hc3 (w.heap.size) o (by first | omega | (simp; done) | (simp; omega)); have q3_1 := fun o => hc3 (w2.heap.size + 1 + 1) o (by first | omega | (simp; done) | (simp; omega)); have f3_0 := fun o => hf3 (w.heap.size) o (by first | omega | (simp; done) | (simp; omega)); have f3_1 := fun o => hf3 (w2.heap.size + 1 + 1) o (by first | omega | (simp; done) | (simp; omega)); have hz3 := b3.size; (try simp at hz3); have z3_0 : w.heap.size < w3.heap.size := (by omega); have n3_0 := Nat.ne_of_lt z3_0; have m3_0 := (Nat.ne_of_lt z3_0).symm; have z3_1 : w2.heap.size + 1 + 1 < w3.heap.size := (by omega); have n3_1 := Nat.ne_of_lt z3_1; have m3_1 := (Nat.ne_of_lt z3_1).symm
          rw [← HF.out]
          go_wp2_with fail
          (with_reducible refine (spec_FormatRat (decide (z < 0)) A2 (some ⟨w2.heap.size + 1, 0, none⟩) n2 c2 1 1 (toL z.natAbs) [1] _ (OwnR.here O2.out (by repeat' (first | (with_reducible exact Below.refl _ _) | (with_reducible refine Below.alloc ?_ ?_ _) | (with_reducible refine Below.setCell ?_ ?_ _) | (with_reducible refine below_drewN ?_ _) | (with_reducible refine Below.drew ?_) | (with_reducible refine below_step (by assumption) ?_ ?_) | omega | (simp; done) | (simp; omega)))).sl (OwnR.here OL.out (by repeat' (first | (with_reducible exact Below.refl _ _) | (with_reducible refine Below.alloc ?_ ?_ _) | (with_reducible refine Below.setCell ?_ ?_ _) | (with_reducible refine below_drewN ?_ _) | (with_reducible refine Below.drew ?_) | (with_reducible refine below_step (by assumption) ?_ ?_) | omega | (simp; done) | (simp; omega)))).sl (HT.out.below (by repeat' (first | (with_reducible exact Below.refl _ _) | (with_reducible refine Below.alloc ?_ ?_ _) | (with_reducible refine Below.setCell ?_ ?_ _) | (with_reducible refine below_drewN ?_ _) | (with_reducible refine Below.drew ?_) | (with_reducible refine below_step (by assumption) ?_ ?_) | omega | (simp; done) | (simp; omega))))).mono ?_); rintro e w4 ⟨rfl, b4⟩; obtain ⟨hc4, hf4⟩ := bxcell b4; have q4_0 := fun o => hc4 (w.heap.size) o (by first | omega | (simp; done) | (simp; omega)); have q4_1 := fun o => hc4 (w2.heap.size + 1 + 1) o (by first | omega | (simp; done) | (simp; omega)); have f4_0 := fun o => hf4 (w.heap.size) o (by first | omega | (simp; done) | (simp; omega)); have f4_1 := fun o => hf4 (w2.heap.size + 1 + 1) o (by first | omega | (simp; done) | (simp; omega)); have hz4 := b4.size; (try simp at hz4); have z4_0 : w.heap.size < w4.heap.size := (by omega); have n4_0 := Nat.ne_of_lt z4_0; have m4_0 := (Nat.ne_of_lt z4_0).symm; have z4_1 : w2.heap.size + 1 + 1 < w4.heap.size := (by omega); have n4_1 := Nat.ne_of_lt z4_1; have m4_1 := (Nat.ne_of_lt z4_1).symm
          rw [← HF.out]
          go_wp2
          have O24 := Lib.hid (show OwnR w4 _ _ _ _ _ from OwnR.here O2.out (by repeat' (first | (with_reducible exact Below.refl _ _) | (with_reducible refine Below.alloc ?_ ?_ _) | (with_reducible refine Below.setCell ?_ ?_ _) | (with_reducible refine below_drewN ?_ _) | (with_reducible refine Below.drew ?_) | (with_reducible refine below_step (by assumption) ?_ ?_) | omega | (simp; done) | (simp; omega))))
          have OL4 := Lib.hid (show OwnR w4 _ _ _ _ _ from OwnR.here OL.out (by repeat' (first | (with_reducible exact Below.refl _ _) | (with_reducible refine Below.alloc ?_ ?_ _) | (with_reducible refine Below.setCell ?_ ?_ _) | (with_reducible refine below_drewN ?_ _) | (with_reducible refine Below.drew ?_) | (with_reducible refine below_step (by assumption) ?_ ?_) | omega | (simp; done) | (simp; omega))))
          refine bodyPost_ret (v := .tuple #[.agg #[.bool (decide (z < 0)), .slice A2 n2 c2, .slice (some ⟨w2.heap.size + 1, 0, none⟩) 1 1], .bool true]) ?_ ?_ ?_
          · simp [results, Tryd.results30, go_sem, *]
          · rfl
          · exact retqb_yes (lo1 := w1.heap.size) (hi1 := w2.heap.size) (lo2 := w2.heap.size + 1) (hi2 := w2.heap.size + 1 + 1) HR.out (by have hfar := O24.out; repeat' (first | (with_reducible exact hfar) | (with_reducible refine OwnR.far ?_ _ _ ?_) | (with_reducible refine OwnR.allocd ?_ _ ?_) | (left; first | omega | (simp; done) | (simp; omega)) | (right; first | omega | (simp; done) | (simp; omega)) | omega | (simp; done) | (simp; omega) | (exact hfar))) (by have hfar := OL4.out; repeat' (first | (with_reducible exact hfar) | (with_reducible refine OwnR.far ?_ _ _ ?_) | (with_reducible refine OwnR.allocd ?_ _ ?_) | (left; first | omega | (simp; done) | (simp; omega)) | (right; first | omega | (simp; done) | (simp; omega)) | omega | (simp; done) | (simp; omega) | (exact hfar))) (by first | omega | (simp; done) | (simp; omega)) (by first | omega | (simp; done) | (simp; omega)) (by first | (left; first | omega | (simp; done) | (simp; omega)) | (right; first | omega | (simp; done) | (simp; omega))) (by first | omega | (simp; done) | (simp; omega)) (by first | omega | (simp; done) | (simp; omega)) (by first | omega | (simp; done) | (simp; omega)) (by first | omega | (simp; done) | (simp; omega)) (by repeat' (first | (with_reducible exact Below.refl _ _) | (with_reducible refine Below.alloc ?_ ?_ _) | (with_reducible refine Below.setCell ?_ ?_ _) | (with_reducible refine below_drewN ?_ _) | (with_reducible refine Below.drew ?_) | (with_reducible refine below_step (by assumption) ?_ ?_) | omega | (simp; done) | (simp; omega)))
        · have HR := Lib.hid (pr_other HC.out (by rw [← hF]; exact hfs))
          have hcmp := str_ne hfs
          have hem := str_noE (show ¬ F = ⟨#[]⟩ by rw [hF]; intro h9; rw [fmtRat_empty.1 h9] at hok; cases hok)
          have HOK := Lib.hid hok
          clear hfs hF hok
          go_wp2_with fail
          (with_reducible refine (spec_FormatRat (decide (z < 0)) A2 (some ⟨w2.heap.size + 1, 0, none⟩) n2 c2 1 1 (toL z.natAbs) [1] _ (OwnR.here O2.out (by repeat' (first | (with_reducible exact Below.refl _ _) | (with_reducible refine Below.alloc ?_ ?_ _) | (with_reducible refine Below.setCell ?_ ?_ _) | (with_reducible refine below_drewN ?_ _) | (with_reducible refine Below.drew ?_) | (with_reducible refine below_step (by assumption) ?_ ?_) | omega | (simp; done) | (simp; omega)))).sl (OwnR.here OL.out (by repeat' (first | (with_reducible exact Below.refl _ _) | (with_reducible refine Below.alloc ?_ ?_ _) | (with_reducible refine Below.setCell ?_ ?_ _) | (with_reducible refine below_drewN ?_ _) | (with_reducible refine Below.drew ?_) | (with_reducible refine below_step (by assumption) ?_ ?_) | omega | (simp; done) | (simp; omega)))).sl (HT.out.below (by repeat' (first | (with_reducible exact Below.refl _ _) | (with_reducible refine Below.alloc ?_ ?_ _) | (with_reducible refine Below.setCell ?_ ?_ _) | (with_reducible refine below_drewN ?_ _) | (with_reducible refine Below.drew ?_) | (with_reducible refine below_step (by assumption) ?_ ?_) | omega | (simp; done) | (simp; omega))))).mono ?_); rintro e w3 ⟨rfl, b3⟩; obtain ⟨hc3, hf3⟩ := bxcell b3; have q3_0 := fun o => hc3 (w.heap.size) o (by first | omega | (simp; done) | (simp; omega)); have q3_1 := fun o => hc3 (w2.heap.size + 1 + 1) o (by first | omega | (simp; done) | (simp; omega)); have f3_0 := fun o => hf3 (w.heap.size) o (by first | omega | (simp; done) | (simp; omega)); have f3_1 := fun o => hf3 (w2.heap.size + 1 + 1) o (by first | omega | (simp; done) | (simp; omega)); have hz3 := b3.size; (try simp at hz3); have z3_0 : w.heap.size < w3.heap.size := (by omega); have n3_0 := Nat.ne_of_lt z3_0; have m3_0 := (Nat.ne_of_lt z3_0).symm; have z3_1 : w2.heap.size + 1 + 1 < w3.heap.size := (by omega); have n3_1 := Nat.ne_of_lt z3_1; have m3_1 := (Nat.ne_of_lt z3_1).symm
          rw [← HF.out]
          go_wp2_with fail
          (with_reducible refine (spec_FormatRat (decide (z < 0)) A2 (some ⟨w2.heap.size + 1, 0, none⟩) n2 c2 1 1 (toL z.natAbs) [1] _ (OwnR.here O2.out (by repeat' (first | (with_reducible exact Below.refl _ _) | (with_reducible refine Below.alloc ?_ ?_ _) | (with_reducible refine Below.setCell ?_ ?_ _) | (with_reducible refine below_drewN ?_ _) | (with_reducible refine Below.drew ?_) | (with_reducible refine below_step (by assumption) ?_ ?_) | omega | (simp; done) | (simp; omega)))).sl (OwnR.here OL.out (by repeat' (first | (with_reducible exact Below.refl _ _) | (with_reducible refine Below.alloc ?_ ?_ _) | (with_reducible refine Below.setCell ?_ ?_ _) | (with_reducible refine below_drewN ?_ _) | (with_reducible refine Below.drew ?_) | (with_reducible refine below_step (by assumption) ?_ ?_) | omega | (simp; done) | (simp; omega)))).sl (HT.out.below (by repeat' (first | (with_reducible exact Below.refl _ _) | (with_reducible refine Below.alloc ?_ ?_ _) | (with_reducible refine Below.setCell ?_ ?_ _) | (with_reducible refine below_drewN ?_ _) | (with_reducible refine Below.drew ?_) | (with_reducible refine below_step (by assumption) ?_ ?_) | omega | (simp; done) | (simp; omega))))).mono ?_); rintro e w4 ⟨rfl, b4⟩; obtain ⟨hc4, hf4⟩ := bxcell b4; have q4_0 := fun o => hc4 (w.heap.size) o (by first | omega | (simp; done) | (simp; omega)); have q4_1 := fun o => hc4 (w2.heap.size + 1 + 1) o (by first | omega | (simp; done) | (simp; omega)); have f4_0 := fun o => hf4 (w.heap.size) o (by first | omega | (simp; done) | (simp; omega)); have f4_1 := fun o => hf4 (w2.heap.size + 1 + 1) o (by first | omega | (simp; done) | (simp; omega)); have hz4 := b4.size; (try simp at hz4); have z4_0 : w.heap.size < w4.heap.size := (by omega); have n4_0 := Nat.ne_of_lt z4_0; have m4_0 := (Nat.ne_of_lt z4_0).symm; have z4_1 : w2.heap.size + 1 + 1 < w4.heap.size := (by omega); have n4_1 := Nat.ne_of_lt z4_1; have m4_1 := (Nat.ne_of_lt z4_1).symm
          rw [← HF.out]
          go_wp2
          refine bodyPost_ret (v := .tuple #[.agg #[.bool false, .slice none 0 0, .slice none 0 0], .bool false]) ?_ ?_ ?_
          · simp [results, Tryd.results30, go_sem, *]
          · rfl
          · exact retqb_no HR.out (by repeat' (first | (with_reducible exact Below.refl _ _) | (with_reducible refine Below.alloc ?_ ?_ _) | (with_reducible refine Below.setCell ?_ ?_ _) | (with_reducible refine below_drewN ?_ _) | (with_reducible refine Below.drew ?_) | (with_reducible refine below_step (by assumption) ?_ ?_) | omega | (simp; done) | (simp; omega)))
  · have HSA := Lib.hid (HPS.out a (by simp))
    have HSB := Lib.hid (HPS.out b (by simp))
    obtain ⟨z, ok, hz⟩ : ∃ z ok, parseBigF a = (z, ok) := ⟨_, _, rfl⟩
    have HZ := Lib.hid hz
    obtain ⟨ys, fine, hy⟩ : ∃ ys fine, parseNatF b = (ys, fine) := ⟨_, _, rfl⟩
    have HY := Lib.hid hy
    have HC := Lib.hid (show ratCand s = (z, ys, ok && fine) by rw [cand_two hL, hz, hy])
    have hrl : ((a :: b :: r).length : Int) ≤ 1048577 := by omega
    have hr1 : (r.length : Int) ≤ 1048575 := by rw [List.length_cons, List.length_cons] at hrl; omega
    clear hL hz hy hpos hlen HPS hrl
    cases ok with
    | false =>
      have HR := Lib.hid (pr_bad (s := s) (by rw [HC.out]; rfl))
      go_enter Tryd.func30, Tryd.ntmps30
      go_wp2_with fail
      (with_reducible refine (spec_SplitAny s ⟨#[47]⟩ _ hs (by unfold maxLen; decide)).mono ?_); rintro e w1 ⟨r1, rfl, o1, b1⟩; obtain ⟨hc1, hf1⟩ := bxcell b1; have q1_0 := fun o => hc1 (w.heap.size) o (by first | omega | (simp; done) | (simp; omega)); have f1_0 := fun o => hf1 (w.heap.size) o (by first | omega | (simp; done) | (simp; omega)); have hz1 := b1.size; (try simp at hz1); have z1_0 : w.heap.size < w1.heap.size := (by omega); have n1_0 := Nat.ne_of_lt z1_0; have m1_0 := (Nat.ne_of_lt z1_0).symm
      rw [HL.out] at o1
      obtain ⟨D1, d1, hv1, _, f1, g1⟩ := o1.form
      subst hv1
      obtain ⟨g, rfl, ga, gb⟩ := g1 (by simp)
      have SL := o1.sl
      obtain ⟨_, _, hvv, _, _, hcc⟩ := SL
      cases hvv
      obtain ⟨g', off', hgg, hcl⟩ := hcc (by simp)
      cases hgg
      have k1_0 : w1.cell? ⟨g, 0, none⟩ = some (.string a) := by simpa using hcl 0 a rfl
      have k1_1 : w1.cell? ⟨g, 1, none⟩ = some (.string b) := by simpa using hcl 1 b rfl
      clear hcl hcc
      clear o1 g1 f1
      go_wp2_with fail
      (with_reducible refine (spec_ParseBigInt a _ (by have := HSA.out; omega)).mono ?_); rintro e w2 ⟨A2, n2, c2, rfl, o2, b2⟩; obtain ⟨hc2, hf2⟩ := bxcell b2; have q2_0 := fun o => hc2 (w.heap.size) o (by first | omega | (simp; done) | (simp; omega)); have q2_1 := fun o => hc2 (g) o (by first | omega | (simp; done) | (simp; omega)); have f2_0 := fun o => hf2 (w.heap.size) o (by first | omega | (simp; done) | (simp; omega)); have f2_1 := fun o => hf2 (g) o (by first | omega | (simp; done) | (simp; omega)); have hz2 := b2.size; (try simp at hz2); have z2_0 : w.heap.size < w2.heap.size := (by omega); have n2_0 := Nat.ne_of_lt z2_0; have m2_0 := (Nat.ne_of_lt z2_0).symm; have z2_1 : g < w2.heap.size := (by omega); have n2_1 := Nat.ne_of_lt z2_1; have m2_1 := (Nat.ne_of_lt z2_1).symm
      have ca1_2_0 := ca1 z2_0
      have ca2_2_0 := ca2 z2_0
      have ca3_2_0 := ca3 z2_0
      have ca1_2_1 := ca1 z2_1
      have ca2_2_1 := ca2 z2_1
      have ca3_2_1 := ca3 z2_1
      have fz2_0 : ∀ o, w2.frozen? ⟨w.heap.size, o, none⟩ = false := fun o => by rw [f2_0, f1_0]; simp [go_sem]
      clear f1_0 f2_0 hf1 hf2
      have hfa := fun (u : World) (c : Array Value) (t : TypeId) (o : Nat) => frozen?_alloc_cells u c t ⟨w.heap.size, o, none⟩
      have nn2_0 : w.heap.size ≠ w2.heap.size + 1 := by omega
      have mm2_0 : w2.heap.size + 1 ≠ w.heap.size := by omega
      have nn2_1 : w.heap.size ≠ w2.heap.size + 1 + 1 := by omega
      have mm2_1 : w2.heap.size + 1 + 1 ≠ w.heap.size := by omega
      have nn2_2 : g ≠ w2.heap.size + 1 := by omega
      have mm2_2 : w2.heap.size + 1 ≠ g := by omega
      have nn2_3 : g ≠ w2.heap.size + 1 + 1 := by omega
      have mm2_3 : w2.heap.size + 1 + 1 ≠ g := by omega
      rw [HZ.out] at o2 ⊢
      have O2 := Lib.hid ((OwnR.of o2).wide (lo' := w1.heap.size) (by first | omega | (simp; done) | (simp; omega)) (Nat.le_refl _))
      clear o2
      go_wp2_with fail
      (with_reducible refine (spec_ParseNat b _ (by have := HSB.out; unfold maxLen; omega)).mono ?_); rintro e w3 ⟨r3, rfl, o3, b3⟩; obtain ⟨hc3, hf3⟩ := bxcell b3; have q3_0 := fun o => hc3 (w.heap.size) o (by first | omega | (simp; done) | (simp; omega)); have q3_1 := fun o => hc3 (w2.heap.size) o (by first | omega | (simp; done) | (simp; omega)); have f3_0 := fun o => hf3 (w.heap.size) o (by first | omega | (simp; done) | (simp; omega)); have f3_1 := fun o => hf3 (w2.heap.size) o (by first | omega | (simp; done) | (simp; omega)); have hz3 := b3.size; (try simp at hz3); have z3_0 : w.heap.size < w3.heap.size := (by omega); have n3_0 := Nat.ne_of_lt z3_0; have m3_0 := (Nat.ne_of_lt z3_0).symm; have z3_1 : w2.heap.size < w3.heap.size := (by omega); have n3_1 := Nat.ne_of_lt z3_1; have m3_1 := (Nat.ne_of_lt z3_1).symm
      have ca1_3_0 := ca1 z3_0
      have ca2_3_0 := ca2 z3_0
      have ca3_3_0 := ca3 z3_0
      have ca1_3_1 := ca1 z3_1
      have ca2_3_1 := ca2 z3_1
      have ca3_3_1 := ca3 z3_1
      have nn3_0 : w.heap.size ≠ w3.heap.size + 1 := by omega
      have mm3_0 : w3.heap.size + 1 ≠ w.heap.size := by omega
      have nn3_1 : w.heap.size ≠ w3.heap.size + 1 + 1 := by omega
      have mm3_1 : w3.heap.size + 1 + 1 ≠ w.heap.size := by omega
      have nn3_2 : w2.heap.size ≠ w3.heap.size + 1 := by omega
      have mm3_2 : w3.heap.size + 1 ≠ w2.heap.size := by omega
      have nn3_3 : w2.heap.size ≠ w3.heap.size + 1 + 1 := by omega
      have mm3_3 : w3.heap.size + 1 + 1 ≠ w2.heap.size := by omega
      rw [HY.out] at o3 ⊢
      obtain ⟨D3, d3, hv3, _, f3, _⟩ := o3.form
      subst hv3
      have O3 := Lib.hid ((OwnR.of o3).wide (lo' := w2.heap.size + 1 + 1) (by first | omega | (simp; done) | (simp; omega)) (Nat.le_refl _))
      clear o3 f3
      go_wp2
      refine bodyPost_ret (v := .tuple #[.agg #[.bool false, .slice none 0 0, .slice none 0 0], .bool false]) ?_ ?_ ?_
      · simp [results, Tryd.results30, go_sem, *]
      · rfl
      · exact retqb_no HR.out (by repeat' (first | (with_reducible exact Below.refl _ _) | (with_reducible refine Below.alloc ?_ ?_ _) | (with_reducible refine Below.setCell ?_ ?_ _) | (with_reducible refine below_drewN ?_ _) | (with_reducible refine Below.drew ?_) | (with_reducible refine below_step (by assumption) ?_ ?_) | omega | (simp; done) | (simp; omega)))
    | true =>
      cases fine with
      | false =>
        have HR := Lib.hid (pr_bad (s := s) (by rw [HC.out]; rfl))
        go_enter Tryd.func30, Tryd.ntmps30
        go_wp2_with fail
        (with_reducible refine (spec_SplitAny s ⟨#[47]⟩ _ hs (by unfold maxLen; decide)).mono ?_); rintro e w1 ⟨r1, rfl, o1, b1⟩; obtain ⟨hc1, hf1⟩ := bxcell b1; have q1_0 := fun o => hc1 (w.heap.size) o (by first | omega | (simp; done) | (simp; omega)); have f1_0 := fun o => hf1 (w.heap.size) o (by first | omega | (simp; done) | (simp; omega)); have hz1 := b1.size; (try simp at hz1); have z1_0 : w.heap.size < w1.heap.size := (by omega); have n1_0 := Nat.ne_of_lt z1_0; have m1_0 := (Nat.ne_of_lt z1_0).symm
        rw [HL.out] at o1
        obtain ⟨D1, d1, hv1, _, f1, g1⟩ := o1.form
        subst hv1
        obtain ⟨g, rfl, ga, gb⟩ := g1 (by simp)
        have SL := o1.sl
        obtain ⟨_, _, hvv, _, _, hcc⟩ := SL
        cases hvv
        obtain ⟨g', off', hgg, hcl⟩ := hcc (by simp)
        cases hgg
        have k1_0 : w1.cell? ⟨g, 0, none⟩ = some (.string a) := by simpa using hcl 0 a rfl
        have k1_1 : w1.cell? ⟨g, 1, none⟩ = some (.string b) := by simpa using hcl 1 b rfl
        clear hcl hcc
        clear o1 g1 f1
        go_wp2_with fail
        (with_reducible refine (spec_ParseBigInt a _ (by have := HSA.out; omega)).mono ?_); rintro e w2 ⟨A2, n2, c2, rfl, o2, b2⟩; obtain ⟨hc2, hf2⟩ := bxcell b2; have q2_0 := fun o => hc2 (w.heap.size) o (by first | omega | (simp; done) | (simp; omega)); have q2_1 := fun o => hc2 (g) o (by first | omega | (simp; done) | (simp; omega)); have f2_0 := fun o => hf2 (w.heap.size) o (by first | omega | (simp; done) | (simp; omega)); have f2_1 := fun o => hf2 (g) o (by first | omega | (simp; done) | (simp; omega)); have hz2 := b2.size; (try simp at hz2); have z2_0 : w.heap.size < w2.heap.size := (by omega); have n2_0 := Nat.ne_of_lt z2_0; have m2_0 := (Nat.ne_of_lt z2_0).symm; have z2_1 : g < w2.heap.size := (by omega); have n2_1 := Nat.ne_of_lt z2_1; have m2_1 := (Nat.ne_of_lt z2_1).symm
        have ca1_2_0 := ca1 z2_0
        have ca2_2_0 := ca2 z2_0
        have ca3_2_0 := ca3 z2_0
        have ca1_2_1 := ca1 z2_1
        have ca2_2_1 := ca2 z2_1
        have ca3_2_1 := ca3 z2_1
        have fz2_0 : ∀ o, w2.frozen? ⟨w.heap.size, o, none⟩ = false := fun o => by rw [f2_0, f1_0]; simp [go_sem]
        clear f1_0 f2_0 hf1 hf2
        have hfa := fun (u : World) (c : Array Value) (t : TypeId) (o : Nat) => frozen?_alloc_cells u c t ⟨w.heap.size, o, none⟩
        have nn2_0 : w.heap.size ≠ w2.heap.size + 1 := by omega
        have mm2_0 : w2.heap.size + 1 ≠ w.heap.size := by omega
        have nn2_1 : w.heap.size ≠ w2.heap.size + 1 + 1 := by omega
        have mm2_1 : w2.heap.size + 1 + 1 ≠ w.heap.size := by omega
        have nn2_2 : g ≠ w2.heap.size + 1 := by omega
        have mm2_2 : w2.heap.size + 1 ≠ g := by omega
        have nn2_3 : g ≠ w2.heap.size + 1 + 1 := by omega
        have mm2_3 : w2.heap.size + 1 + 1 ≠ g := by omega
        rw [HZ.out] at o2 ⊢
        have O2 := Lib.hid ((OwnR.of o2).wide (lo' := w1.heap.size) (by first | omega | (simp; done) | (simp; omega)) (Nat.le_refl _))
        clear o2
        go_wp2_with fail
        (with_reducible refine (spec_ParseNat b _ (by have := HSB.out; unfold maxLen; omega)).mono ?_); rintro e w3 ⟨r3, rfl, o3, b3⟩; obtain ⟨hc3, hf3⟩ := bxcell b3; have q3_0 := fun o => hc3 (w.heap.size) o (by first | omega | (simp; done) | (simp; omega)); have q3_1 := fun o => hc3 (w2.heap.size) o (by first | omega | (simp; done) | (simp; omega)); have f3_0 := fun o => hf3 (w.heap.size) o (by first | omega | (simp; done) | (simp; omega)); have f3_1 := fun o => hf3 (w2.heap.size) o (by first | omega | (simp; done) | (simp; omega)); have hz3 := b3.size; (try simp at hz3); have z3_0 : w.heap.size < w3.heap.size := (by omega); have n3_0 := Nat.ne_of_lt z3_0; have m3_0 := (Nat.ne_of_lt z3_0).symm; have z3_1 : w2.heap.size < w3.heap.size := (by omega); have n3_1 := Nat.ne_of_lt z3_1; have m3_1 := (Nat.ne_of_lt z3_1).symm
        have ca1_3_0 := ca1 z3_0
        have ca2_3_0 := ca2 z3_0
        have ca3_3_0 := ca3 z3_0
        have ca1_3_1 := ca1 z3_1
        have ca2_3_1 := ca2 z3_1
        have ca3_3_1 := ca3 z3_1
        have nn3_0 : w.heap.size ≠ w3.heap.size + 1 := by omega
        have mm3_0 : w3.heap.size + 1 ≠ w.heap.size := by omega
        have nn3_1 : w.heap.size ≠ w3.heap.size + 1 + 1 := by omega
        have mm3_1 : w3.heap.size + 1 + 1 ≠ w.heap.size := by omega
        have nn3_2 : w2.heap.size ≠ w3.heap.size + 1 := by omega
        have mm3_2 : w3.heap.size + 1 ≠ w2.heap.size := by omega
        have nn3_3 : w2.heap.size ≠ w3.heap.size + 1 + 1 := by omega
        have mm3_3 : w3.heap.size + 1 + 1 ≠ w2.heap.size := by omega
        rw [HY.out] at o3 ⊢
        obtain ⟨D3, d3, hv3, _, f3, _⟩ := o3.form
        subst hv3
        have O3 := Lib.hid ((OwnR.of o3).wide (lo' := w2.heap.size + 1 + 1) (by first | omega | (simp; done) | (simp; omega)) (Nat.le_refl _))
        clear o3 f3
        go_wp2
        refine bodyPost_ret (v := .tuple #[.agg #[.bool false, .slice none 0 0, .slice none 0 0], .bool false]) ?_ ?_ ?_
        · simp [results, Tryd.results30, go_sem, *]
        · rfl
        · exact retqb_no HR.out (by repeat' (first | (with_reducible exact Below.refl _ _) | (with_reducible refine Below.alloc ?_ ?_ _) | (with_reducible refine Below.setCell ?_ ?_ _) | (with_reducible refine below_drewN ?_ _) | (with_reducible refine Below.drew ?_) | (with_reducible refine below_step (by assumption) ?_ ?_) | omega | (simp; done) | (simp; omega)))
      | true =>
        go_enter Tryd.func30, Tryd.ntmps30
        go_wp2_with fail
        (with_reducible refine (spec_SplitAny s ⟨#[47]⟩ _ hs (by unfold maxLen; decide)).mono ?_); rintro e w1 ⟨r1, rfl, o1, b1⟩; obtain ⟨hc1, hf1⟩ := bxcell b1; have q1_0 := fun o => hc1 (w.heap.size) o (by first | omega | (simp; done) | (simp; omega)); have f1_0 := fun o => hf1 (w.heap.size) o (by first | omega | (simp; done) | (simp; omega)); have hz1 := b1.size; (try simp at hz1); have z1_0 : w.heap.size < w1.heap.size := (by omega); have n1_0 := Nat.ne_of_lt z1_0; have m1_0 := (Nat.ne_of_lt z1_0).symm
        rw [HL.out] at o1
        obtain ⟨D1, d1, hv1, _, f1, g1⟩ := o1.form
        subst hv1
        obtain ⟨g, rfl, ga, gb⟩ := g1 (by simp)
        have SL := o1.sl
        obtain ⟨_, _, hvv, _, _, hcc⟩ := SL
        cases hvv
        obtain ⟨g', off', hgg, hcl⟩ := hcc (by simp)
        cases hgg
        have k1_0 : w1.cell? ⟨g, 0, none⟩ = some (.string a) := by simpa using hcl 0 a rfl
        have k1_1 : w1.cell? ⟨g, 1, none⟩ = some (.string b) := by simpa using hcl 1 b rfl
        clear hcl hcc
        clear o1 g1 f1
        go_wp2_with fail
        (with_reducible refine (spec_ParseBigInt a _ (by have := HSA.out; omega)).mono ?_); rintro e w2 ⟨A2, n2, c2, rfl, o2, b2⟩; obtain ⟨hc2, hf2⟩ := bxcell b2; have q2_0 := fun o => hc2 (w.heap.size) o (by first | omega | (simp; done) | (simp; omega)); have q2_1 := fun o => hc2 (g) o (by first | omega | (simp; done) | (simp; omega)); have f2_0 := fun o => hf2 (w.heap.size) o (by first | omega | (simp; done) | (simp; omega)); have f2_1 := fun o => hf2 (g) o (by first | omega | (simp; done) | (simp; omega)); have hz2 := b2.size; (try simp at hz2); have z2_0 : w.heap.size < w2.heap.size := (by omega); have n2_0 := Nat.ne_of_lt z2_0; have m2_0 := (Nat.ne_of_lt z2_0).symm; have z2_1 : g < w2.heap.size := (by omega); have n2_1 := Nat.ne_of_lt z2_1; have m2_1 := (Nat.ne_of_lt z2_1).symm
        have ca1_2_0 := ca1 z2_0
        have ca2_2_0 := ca2 z2_0
        have ca3_2_0 := ca3 z2_0
        have ca1_2_1 := ca1 z2_1
        have ca2_2_1 := ca2 z2_1
        have ca3_2_1 := ca3 z2_1
        have fz2_0 : ∀ o, w2.frozen? ⟨w.heap.size, o, none⟩ = false := fun o => by rw [f2_0, f1_0]; simp [go_sem]
        clear f1_0 f2_0 hf1 hf2
        have hfa := fun (u : World) (c : Array Value) (t : TypeId) (o : Nat) => frozen?_alloc_cells u c t ⟨w.heap.size, o, none⟩
        have nn2_0 : w.heap.size ≠ w2.heap.size + 1 := by omega
        have mm2_0 : w2.heap.size + 1 ≠ w.heap.size := by omega
        have nn2_1 : w.heap.size ≠ w2.heap.size + 1 + 1 := by omega
        have mm2_1 : w2.heap.size + 1 + 1 ≠ w.heap.size := by omega
        have nn2_2 : g ≠ w2.heap.size + 1 := by omega
        have mm2_2 : w2.heap.size + 1 ≠ g := by omega
        have nn2_3 : g ≠ w2.heap.size + 1 + 1 := by omega
        have mm2_3 : w2.heap.size + 1 + 1 ≠ g := by omega
        rw [HZ.out] at o2 ⊢
        have O2 := Lib.hid ((OwnR.of o2).wide (lo' := w1.heap.size) (by first | omega | (simp; done) | (simp; omega)) (Nat.le_refl _))
        clear o2
        go_wp2_with fail
        (with_reducible refine (spec_ParseNat b _ (by have := HSB.out; unfold maxLen; omega)).mono ?_); rintro e w3 ⟨r3, rfl, o3, b3⟩; obtain ⟨hc3, hf3⟩ := bxcell b3; have q3_0 := fun o => hc3 (w.heap.size) o (by first | omega | (simp; done) | (simp; omega)); have q3_1 := fun o => hc3 (w2.heap.size) o (by first | omega | (simp; done) | (simp; omega)); have f3_0 := fun o => hf3 (w.heap.size) o (by first | omega | (simp; done) | (simp; omega)); have f3_1 := fun o => hf3 (w2.heap.size) o (by first | omega | (simp; done) | (simp; omega)); have hz3 := b3.size; (try simp at hz3); have z3_0 : w.heap.size < w3.heap.size := (by omega); have n3_0 := Nat.ne_of_lt z3_0; have m3_0 := (Nat.ne_of_lt z3_0).symm; have z3_1 : w2.heap.size < w3.heap.size := (by omega); have n3_1 := Nat.ne_of_lt z3_1; have m3_1 := (Nat.ne_of_lt z3_1).symm
        have ca1_3_0 := ca1 z3_0
        have ca2_3_0 := ca2 z3_0
        have ca3_3_0 := ca3 z3_0
        have ca1_3_1 := ca1 z3_1
        have ca2_3_1 := ca2 z3_1
        have ca3_3_1 := ca3 z3_1
        have nn3_0 : w.heap.size ≠ w3.heap.size + 1 := by omega
        have mm3_0 : w3.heap.size + 1 ≠ w.heap.size := by omega
        have nn3_1 : w.heap.size ≠ w3.heap.size + 1 + 1 := by omega
        have mm3_1 : w3.heap.size + 1 + 1 ≠ w.heap.size := by omega
        have nn3_2 : w2.heap.size ≠ w3.heap.size + 1 := by omega
        have mm3_2 : w3.heap.size + 1 ≠ w2.heap.size := by omega
        have nn3_3 : w2.heap.size ≠ w3.heap.size + 1 + 1 := by omega
        have mm3_3 : w3.heap.size + 1 + 1 ≠ w2.heap.size := by omega
        rw [HY.out] at o3 ⊢
        obtain ⟨D3, d3, hv3, _, f3, _⟩ := o3.form
        subst hv3
        have O3 := Lib.hid ((OwnR.of o3).wide (lo' := w2.heap.size + 1 + 1) (by first | omega | (simp; done) | (simp; omega)) (Nat.le_refl _))
        clear o3 f3
        cases hok : ratOkB (decide (z < 0)) (toL z.natAbs) ys with
        | false =>
          have HR := Lib.hid (pr_notok HC.out hok)
          have HE := Lib.hid (fmtRat_no hok)
          go_wp2_with fail
          (with_reducible refine (spec_FormatRat (decide (z < 0)) A2 D3 n2 c2 ys.length d3 (toL z.natAbs) ys _ (OwnR.here O2.out (by repeat' (first | (with_reducible exact Below.refl _ _) | (with_reducible refine Below.alloc ?_ ?_ _) | (with_reducible refine Below.setCell ?_ ?_ _) | (with_reducible refine below_drewN ?_ _) | (with_reducible refine Below.drew ?_) | (with_reducible refine below_step (by assumption) ?_ ?_) | omega | (simp; done) | (simp; omega)))).sl (show OwnR _ (w2.heap.size + 1 + 1) w3.heap.size 3 (.slice D3 ys.length d3) ys from (by have hfar := O3.out; repeat' (first | (with_reducible exact hfar) | (with_reducible refine OwnR.far ?_ _ _ ?_) | (with_reducible refine OwnR.allocd ?_ _ ?_) | (with_reducible refine OwnR.below ?_ b5 ?_) | (with_reducible refine OwnR.below ?_ b4 ?_) | (left; first | omega | (simp; done) | (simp; omega)) | (right; first | omega | (simp; done) | (simp; omega)) | omega | (simp; done) | (simp; omega)))).sl (HT.out.below (by repeat' (first | (with_reducible exact Below.refl _ _) | (with_reducible refine Below.alloc ?_ ?_ _) | (with_reducible refine Below.setCell ?_ ?_ _) | (with_reducible refine below_drewN ?_ _) | (with_reducible refine Below.drew ?_) | (with_reducible refine below_step (by assumption) ?_ ?_) | omega | (simp; done) | (simp; omega))))).mono ?_); rintro e w4 ⟨rfl, b4⟩; obtain ⟨hc4, hf4⟩ := bxcell b4; have q4_0 := fun o => hc4 (w.heap.size) o (by first | omega | (simp; done) | (simp; omega)); have q4_1 := fun o => hc4 (w3.heap.size) o (by first | omega | (simp; done) | (simp; omega)); have f4_0 := fun o => hf4 (w.heap.size) o (by first | omega | (simp; done) | (simp; omega)); have f4_1 := fun o => hf4 (w3.heap.size) o (by first | omega | (simp; done) | (simp; omega)); have hz4 := b4.size; (try simp at hz4); have z4_0 : w.heap.size < w4.heap.size := (by omega); have n4_0 := Nat.ne_of_lt z4_0; have m4_0 := (Nat.ne_of_lt z4_0).symm; have z4_1 : w3.heap.size < w4.heap.size := (by omega); have n4_1 := Nat.ne_of_lt z4_1; have m4_1 := (Nat.ne_of_lt z4_1).symm
          rw [HE.out]
          have hem : (⟨#[]⟩ : ByteArray).toList.isEmpty = true := str_isE rfl
          go_wp2
          refine bodyPost_ret (v := .tuple #[.agg #[.bool false, .slice none 0 0, .slice none 0 0], .bool false]) ?_ ?_ ?_
          · simp [results, Tryd.results30, go_sem, *]
          · rfl
          · exact retqb_no HR.out (by repeat' (first | (with_reducible exact Below.refl _ _) | (with_reducible refine Below.alloc ?_ ?_ _) | (with_reducible refine Below.setCell ?_ ?_ _) | (with_reducible refine below_drewN ?_ _) | (with_reducible refine Below.drew ?_) | (with_reducible refine below_step (by assumption) ?_ ?_) | omega | (simp; done) | (simp; omega)))
        | true =>
          obtain ⟨F, hF⟩ : ∃ F, F = fmtRatF (decide (z < 0)) (toL z.natAbs) ys := ⟨_, rfl⟩
          have HF := Lib.hid hF
          by_cases hfs : F = s
          · have HR := Lib.hid (pr_yes HC.out hok (by rw [← hF]; exact hfs))
            have hcmp := str_eq hfs
            have hem := str_noE (show ¬ F = ⟨#[]⟩ by rw [hF]; intro h9; rw [fmtRat_empty.1 h9] at hok; cases hok)
            have HOK := Lib.hid hok
            clear hfs hF hok
            go_wp2_with fail
            (with_reducible refine (spec_FormatRat (decide (z < 0)) A2 D3 n2 c2 ys.length d3 (toL z.natAbs) ys _ (OwnR.here O2.out (by repeat' (first | (with_reducible exact Below.refl _ _) | (with_reducible refine Below.alloc ?_ ?_ _) | (with_reducible refine Below.setCell ?_ ?_ _) | (with_reducible refine below_drewN ?_ _) | (with_reducible refine Below.drew ?_) | (with_reducible refine below_step (by assumption) ?_ ?_) | omega | (simp; done) | (simp; omega)))).sl (show OwnR _ (w2.heap.size + 1 + 1) w3.heap.size 3 (.slice D3 ys.length d3) ys from (by have hfar := O3.out; repeat' (first | (with_reducible exact hfar) | (with_reducible refine OwnR.far ?_ _ _ ?_) | (with_reducible refine OwnR.allocd ?_ _ ?_) | (with_reducible refine OwnR.below ?_ b5 ?_) | (with_reducible refine OwnR.below ?_ b4 ?_) | (left; first | omega | (simp; done) | (simp; omega)) | (right; first | omega | (simp; done) | (simp; omega)) | omega | (simp; done) | (simp; omega)))).sl (HT.out.below (by repeat' (first | (with_reducible exact Below.refl _ _) | (with_reducible refine Below.alloc ?_ ?_ _) | (with_reducible refine Below.setCell ?_ ?_ _) | (with_reducible refine below_drewN ?_ _) | (with_reducible refine Below.drew ?_) | (with_reducible refine below_step (by assumption) ?_ ?_) | omega | (simp; done) | (simp; omega))))).mono ?_); rintro e w4 ⟨rfl, b4⟩; obtain ⟨hc4, hf4⟩ := bxcell b4; have q4_0 := fun o => hc4 (w.heap.size) o (by first | omega | (simp; done) | (simp; omega)); have q4_1 := fun o => hc4 (w3.heap.size) o (by first | omega | (simp; done) | (simp; omega)); have f4_0 := fun o => hf4 (w.heap.size) o (by first | omega | (simp; done) | (simp; omega)); have f4_1 := fun o => hf4 (w3.heap.size) o (by first | omega | (simp; done) | (simp; omega)); have hz4 := b4.size; (try simp at hz4); have z4_0 : w.heap.size < w4.heap.size := (by omega); have n4_0 := Nat.ne_of_lt z4_0; have m4_0 := (Nat.ne_of_lt z4_0).symm; have z4_1 : w3.heap.size < w4.heap.size := (by omega); have n4_1 := Nat.ne_of_lt z4_1; have m4_1 := (Nat.ne_of_lt z4_1).symm
            rw [← HF.out]
            go_wp2_with fail
            (with_reducible refine (spec_FormatRat (decide (z < 0)) A2 D3 n2 c2 ys.length d3 (toL z.natAbs) ys _ (OwnR.here O2.out (by repeat' (first | (with_reducible exact Below.refl _ _) | (with_reducible refine Below.alloc ?_ ?_ _) | (with_reducible refine Below.setCell ?_ ?_ _) | (with_reducible refine below_drewN ?_ _) | (with_reducible refine Below.drew ?_) | (with_reducible refine below_step (by assumption) ?_ ?_) | omega | (simp; done) | (simp; omega)))).sl (show OwnR _ (w2.heap.size + 1 + 1) w3.heap.size 3 (.slice D3 ys.length d3) ys from (by have hfar := O3.out; repeat' (first | (with_reducible exact hfar) | (with_reducible refine OwnR.far ?_ _ _ ?_) | (with_reducible refine OwnR.allocd ?_ _ ?_) | (with_reducible refine OwnR.below ?_ b5 ?_) | (with_reducible refine OwnR.below ?_ b4 ?_) | (left; first | omega | (simp; done) | (simp; omega)) | (right; first | omega | (simp; done) | (simp; omega)) | omega | (simp; done) | (simp; omega)))).sl (HT.out.below (by repeat' (first | (with_reducible exact Below.refl _ _) | (with_reducible refine Below.alloc ?_ ?_ _) | (with_reducible refine Below.setCell ?_ ?_ _) | (with_reducible refine below_drewN ?_ _) | (with_reducible refine Below.drew ?_) | (with_reducible refine below_step (by assumption) ?_ ?_) | omega | (simp; done) | (simp; omega))))).mono ?_); rintro e w5 ⟨rfl, b5⟩; obtain ⟨hc5, hf5⟩ := bxcell b5; have q5_0 := fun o => hc5 (w.heap.size) o (by first | omega | (simp; done) | (simp; omega)); have q5_1 := fun o => hc5 (w3.heap.size) o (by first | omega | (simp; done) | (simp; omega)); have f5_0 := fun o => hf5 (w.heap.size) o (by first | omega | (simp; done) | (simp; omega)); have f5_1 := fun o => hf5 (w3.heap.size) o (by first | omega | (simp; done) | (simp; omega)); have hz5 := b5.size; (try simp at hz5); have z5_0 : w.heap.size < w5.heap.size := (by omega); have n5_0 := Nat.ne_of_lt z5_0; have m5_0 := (Nat.ne_of_lt z5_0).symm; have z5_1 : w3.heap.size < w5.heap.size := (by omega); have n5_1 := Nat.ne_of_lt z5_1; have m5_1 := (Nat.ne_of_lt z5_1).symm
            rw [← HF.out]
            go_wp2
            have O24 := Lib.hid (show OwnR w5 _ _ _ _ _ from OwnR.here O2.out (by repeat' (first | (with_reducible exact Below.refl _ _) | (with_reducible refine Below.alloc ?_ ?_ _) | (with_reducible refine Below.setCell ?_ ?_ _) | (with_reducible refine below_drewN ?_ _) | (with_reducible refine Below.drew ?_) | (with_reducible refine below_step (by assumption) ?_ ?_) | omega | (simp; done) | (simp; omega))))
            have O34 := Lib.hid (show OwnR w5 (w2.heap.size + 1 + 1) w3.heap.size 3 (.slice D3 ys.length d3) ys from (by have hfar := O3.out; repeat' (first | (with_reducible exact hfar) | (with_reducible refine OwnR.far ?_ _ _ ?_) | (with_reducible refine OwnR.allocd ?_ _ ?_) | (with_reducible refine OwnR.below ?_ b5 ?_) | (with_reducible refine OwnR.below ?_ b4 ?_) | (left; first | omega | (simp; done) | (simp; omega)) | (right; first | omega | (simp; done) | (simp; omega)) | omega | (simp; done) | (simp; omega))))
            refine bodyPost_ret (v := .tuple #[.agg #[.bool (decide (z < 0)), .slice A2 n2 c2, .slice D3 ys.length d3], .bool true]) ?_ ?_ ?_
            · simp [results, Tryd.results30, go_sem, *]
            · rfl
            · exact retqb_yes (lo1 := w1.heap.size) (hi1 := w2.heap.size) (lo2 := w2.heap.size + 1 + 1) (hi2 := w3.heap.size) HR.out (by have hfar := O24.out; repeat' (first | (with_reducible exact hfar) | (with_reducible refine OwnR.far ?_ _ _ ?_) | (with_reducible refine OwnR.allocd ?_ _ ?_) | (left; first | omega | (simp; done) | (simp; omega)) | (right; first | omega | (simp; done) | (simp; omega)) | omega | (simp; done) | (simp; omega) | (exact hfar))) (by have hfar := O34.out; repeat' (first | (with_reducible exact hfar) | (with_reducible refine OwnR.far ?_ _ _ ?_) | (with_reducible refine OwnR.allocd ?_ _ ?_) | (left; first | omega | (simp; done) | (simp; omega)) | (right; first | omega | (simp; done) | (simp; omega)) | omega | (simp; done) | (simp; omega) | (exact hfar))) (by first | omega | (simp; done) | (simp; omega)) (by first | omega | (simp; done) | (simp; omega)) (by first | (left; first | omega | (simp; done) | (simp; omega)) | (right; first | omega | (simp; done) | (simp; omega))) (by first | omega | (simp; done) | (simp; omega)) (by first | omega | (simp; done) | (simp; omega)) (by first | omega | (simp; done) | (simp; omega)) (by first | omega | (simp; done) | (simp; omega)) (by repeat' (first | (with_reducible exact Below.refl _ _) | (with_reducible refine Below.alloc ?_ ?_ _) | (with_reducible refine Below.setCell ?_ ?_ _) | (with_reducible refine below_drewN ?_ _) | (with_reducible refine Below.drew ?_) | (with_reducible refine below_step (by assumption) ?_ ?_) | omega | (simp; done) | (simp; omega)))
          · have HR := Lib.hid (pr_other HC.out (by rw [← hF]; exact hfs))
            have hcmp := str_ne hfs
            have hem := str_noE (show ¬ F = ⟨#[]⟩ by rw [hF]; intro h9; rw [fmtRat_empty.1 h9] at hok; cases hok)
            have HOK := Lib.hid hok
            clear hfs hF hok
            go_wp2_with fail
            (with_reducible refine (spec_FormatRat (decide (z < 0)) A2 D3 n2 c2 ys.length d3 (toL z.natAbs) ys _ (OwnR.here O2.out (by repeat' (first | (with_reducible exact Below.refl _ _) | (with_reducible refine Below.alloc ?_ ?_ _) | (with_reducible refine Below.setCell ?_ ?_ _) | (with_reducible refine below_drewN ?_ _) | (with_reducible refine Below.drew ?_) | (with_reducible refine below_step (by assumption) ?_ ?_) | omega | (simp; done) | (simp; omega)))).sl (show OwnR _ (w2.heap.size + 1 + 1) w3.heap.size 3 (.slice D3 ys.length d3) ys from (by have hfar := O3.out; repeat' (first | (with_reducible exact hfar) | (with_reducible refine OwnR.far ?_ _ _ ?_) | (with_reducible refine OwnR.allocd ?_ _ ?_) | (with_reducible refine OwnR.below ?_ b5 ?_) | (with_reducible refine OwnR.below ?_ b4 ?_) | (left; first | omega | (simp; done) | (simp; omega)) | (right; first | omega | (simp; done) | (simp; omega)) | omega | (simp; done) | (simp; omega)))).sl (HT.out.below (by repeat' (first | (with_reducible exact Below.refl _ _) | (with_reducible refine Below.alloc ?_ ?_ _) | (with_reducible refine Below.setCell ?_ ?_ _) | (with_reducible refine below_drewN ?_ _) | (with_reducible refine Below.drew ?_) | (with_reducible refine below_step (by assumption) ?_ ?_) | omega | (simp; done) | (simp; omega))))).mono ?_); rintro e w4 ⟨rfl, b4⟩; obtain ⟨hc4, hf4⟩ := bxcell b4; have q4_0 := fun o => hc4 (w.heap.size) o (by first | omega | (simp; done) | (simp; omega)); have q4_1 := fun o => hc4 (w3.heap.size) o (by first | omega | (simp; done) | (simp; omega)); have f4_0 := fun o => hf4 (w.heap.size) o (by first | omega | (simp; done) | (simp; omega)); have f4_1 := fun o => hf4 (w3.heap.size) o (by first | omega | (simp; done) | (simp; omega)); have hz4 := b4.size; (try simp at hz4); have z4_0 : w.heap.size < w4.heap.size := (by omega); have n4_0 := Nat.ne_of_lt z4_0; have m4_0 := (Nat.ne_of_lt z4_0).symm; have z4_1 : w3.heap.size < w4.heap.size := (by omega); have n4_1 := Nat.ne_of_lt z4_1; have m4_1 := (Nat.ne_of_lt z4_1).symm
            rw [← HF.out]
            go_wp2_with fail
            (with_reducible refine (spec_FormatRat (decide (z < 0)) A2 D3 n2 c2 ys.length d3 (toL z.natAbs) ys _ (OwnR.here O2.out (by repeat' (first | (with_reducible exact Below.refl _ _) | (with_reducible refine Below.alloc ?_ ?_ _) | (with_reducible refine Below.setCell ?_ ?_ _) | (with_reducible refine below_drewN ?_ _) | (with_reducible refine Below.drew ?_) | (with_reducible refine below_step (by assumption) ?_ ?_) | omega | (simp; done) | (simp; omega)))).sl (show OwnR _ (w2.heap.size + 1 + 1) w3.heap.size 3 (.slice D3 ys.length d3) ys from (by have hfar := O3.out; repeat' (first | (with_reducible exact hfar) | (with_reducible refine OwnR.far ?_ _ _ ?_) | (with_reducible refine OwnR.allocd ?_ _ ?_) | (with_reducible refine OwnR.below ?_ b5 ?_) | (with_reducible refine OwnR.below ?_ b4 ?_) | (left; first | omega | (simp; done) | (simp; omega)) | (right; first | omega | (simp; done) | (simp; omega)) | omega | (simp; done) | (simp; omega)))).sl (HT.out.below (by repeat' (first | (with_reducible exact Below.refl _ _) | (with_reducible refine Below.alloc ?_ ?_ _) | (with_reducible refine Below.setCell ?_ ?_ _) | (with_reducible refine below_drewN ?_ _) | (with_reducible refine Below.drew ?_) | (with_reducible refine below_step (by assumption) ?_ ?_) | omega | (simp; done) | (simp; omega))))).mono ?_); rintro e w5 ⟨rfl, b5⟩; obtain ⟨hc5, hf5⟩ := bxcell b5; have q5_0 := fun o => hc5 (w.heap.size) o (by first | omega | (simp; done) | (simp; omega)); have q5_1 := fun o => hc5 (w3.heap.size) o (by first | omega | (simp; done) | (simp; omega)); have f5_0 := fun o => hf5 (w.heap.size) o (by first | omega | (simp; done) | (simp; omega)); have f5_1 := fun o => hf5 (w3.heap.size) o (by first | omega | (simp; done) | (simp; omega)); have hz5 := b5.size; (try simp at hz5); have z5_0 : w.heap.size < w5.heap.size := (by omega); have n5_0 := Nat.ne_of_lt z5_0; have m5_0 := (Nat.ne_of_lt z5_0).symm; have z5_1 : w3.heap.size < w5.heap.size := (by omega); have n5_1 := Nat.ne_of_lt z5_1; have m5_1 := (Nat.ne_of_lt z5_1).symm
            rw [← HF.out]
            go_wp2
            refine bodyPost_ret (v := .tuple #[.agg #[.bool false, .slice none 0 0, .slice none 0 0], .bool false]) ?_ ?_ ?_
            · simp [results, Tryd.results30, go_sem, *]
            · rfl
            · exact retqb_no HR.out (by repeat' (first | (with_reducible exact Below.refl _ _) | (with_reducible refine Below.alloc ?_ ?_ _) | (with_reducible refine Below.setCell ?_ ?_ _) | (with_reducible refine below_drewN ?_ _) | (with_reducible refine Below.drew ?_) | (with_reducible refine below_step (by assumption) ?_ ?_) | omega | (simp; done) | (simp; omega)))
end Go.Proofs.YticekjagmcphbaaDoor
