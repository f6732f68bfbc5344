/-
  FnWords, proved (the tied card): for every code the law returns true. The card's own condition: the listed library variables lie as their initialisers lay them. Written by an AI agent.
-/
import Derived.Test.YticekjagmcphbaaDoorWords
import Derived.Test.YticekjagmcphbaaDoorLaid5
import Derived.Test.YticekjagmcphbaaDoorCards
import Derived.Test.YticekjagmcphbaaDoorOpen
namespace Go.Proofs.YticekjagmcphbaaDoor
open Go.ChangeShapes Go.WideShapes Go.ChangeAt Go.RowKit

set_option maxHeartbeats 4000000 in
theorem walk_FnWords (w : World) (ht : Tab w) (he : Errs w) (v0 : Value) (n : Nat) (h0 : SlB w w.heap.size v0 n) :
    Calls Tryd.prog 9 #[v0] w fun e w' => e = .returned (.bool true) ∧ Below w.heap.size w w' := by
  have HB := Lib.hid h0
  have HT := Lib.hid ht
  have HE := Lib.hid he
  obtain ⟨A, c, rfl, s1, s2, s3⟩ := h0
  have hm : n ≤ 9223372036854775807 := by unfold maxLen at s2; omega
  clear s3 ht he
  by_cases hbig : 1048576 < n
  · go_enter Tryd.func9, Tryd.ntmps9
    go_wp2
    go_ret
    exact ⟨rfl, Below.refl _ _⟩
  go_enter Tryd.func9, Tryd.ntmps9
  go_wp2_with fail
  refine (spec_MakeNum _ n 1 _ HB.out (by omega) (by omega) (by omega)).mono ?_
  rintro e w1 ⟨x, rfl, x0, x1, b1⟩
  have z1 := b1.size
  go_wp2_with fail
  refine (impl_FormatInt (x - 30000) _ (by omega) (by omega) (HT.out.below (by repeat' (first | (with_reducible exact Below.refl _ _) | (with_reducible refine Below.alloc ?_ ?_ _) | (with_reducible refine Below.setCell ?_ ?_ _) | (with_reducible refine below_drewN ?_ _) | (with_reducible refine Below.drew ?_) | (with_reducible refine below_step (by assumption) ?_ ?_) | omega | (simp; done) | (simp; omega))))).mono ?_
  rintro e w2 ⟨rfl, b2⟩
  have z2 := b2.size
  have HP := Lib.hid (parse_fmt (n := x - 30000) (by omega) (by omega))
  have hsz : (⟨(Lib.itoa (x - 30000)).toArray⟩ : ByteArray).size ≤ 21 := by
    show (Lib.itoa (x - 30000)).toArray.size ≤ 21
    rw [List.size_toArray]
    exact Lib.itoa_length_le _ (by omega) (by omega)
  obtain ⟨X, hX⟩ : ∃ X : ByteArray, X = ⟨(Lib.itoa (x - 30000)).toArray⟩ := ⟨_, rfl⟩
  rw [← hX] at HP hsz ⊢
  clear hX
  go_wp2_with fail
  refine (impl_ParseInt X _ (by omega) (HT.out.below (by repeat' (first | (with_reducible exact Below.refl _ _) | (with_reducible refine Below.alloc ?_ ?_ _) | (with_reducible refine Below.setCell ?_ ?_ _) | (with_reducible refine below_drewN ?_ _) | (with_reducible refine Below.drew ?_) | (with_reducible refine below_step (by assumption) ?_ ?_) | omega | (simp; done) | (simp; omega)))) (HE.out.below (by repeat' (first | (with_reducible exact Below.refl _ _) | (with_reducible refine Below.alloc ?_ ?_ _) | (with_reducible refine Below.setCell ?_ ?_ _) | (with_reducible refine below_drewN ?_ _) | (with_reducible refine Below.drew ?_) | (with_reducible refine below_step (by assumption) ?_ ?_) | omega | (simp; done) | (simp; omega))))).mono ?_
  rintro e w3 ⟨rfl, b3⟩
  have z3 := b3.size
  rw [HP.out]
  go_wp2_with fail
  refine (spec_MakeText _ n _ (HB.out.up (by repeat' (first | (with_reducible exact Below.refl _ _) | (with_reducible refine Below.alloc ?_ ?_ _) | (with_reducible refine Below.setCell ?_ ?_ _) | (with_reducible refine below_drewN ?_ _) | (with_reducible refine Below.drew ?_) | (with_reducible refine below_step (by assumption) ?_ ?_) | omega | (simp; done) | (simp; omega))) (by omega)) (by omega)).mono ?_
  rintro e w4 ⟨s, rfl, hs, b4⟩
  have z4 := b4.size
  have hse := str_eq (rfl : s = s)
  have HL := Lib.hid (splitF_len s ⟨#[32]⟩)
  have HTO := Lib.hid (tot_parts (s := s) (b := ⟨#[32]⟩) s.size 0 0 rfl (Nat.le_refl _) (Nat.zero_le _))
  go_wp2_with fail
  refine (impl_SplitAny s ⟨#[32]⟩ _ (by omega) (by unfold maxLen; decide)).mono ?_
  rintro e w5 ⟨r5, rfl, o5, b5⟩
  have z5 := b5.size
  have O5 := Lib.hid o5.sl
  clear o5
  go_wp2_with fail
  refine (impl_Join r5 (splitF s ⟨#[32]⟩) ⟨#[32]⟩ _ O5.out (by have := HL.out; omega) (by have := HTO.out; unfold splitF; omega) (by decide)).mono ?_
  rintro e w6 ⟨rfl, b6⟩
  have z6 := b6.size
  rw [join_split]
  go_wp2_with fail
  refine (impl_IsName ⟨#[120, 49]⟩ _ (by unfold maxLen; decide)).mono ?_
  rintro e w7 ⟨rfl, rfl⟩
  rw [name_x1]
  go_wp2_with fail
  refine (impl_SplitLines ⟨#[97, 10, 98, 10]⟩ _ (by decide)).mono ?_
  rintro e w8 ⟨r8, rfl, o8, b8⟩
  have z8 := b8.size
  obtain ⟨D, cd, hv, _, _, _⟩ := o8.form
  rw [lines_two] at hv
  subst hv
  clear o8
  go_wp2
  go_ret
  exact ⟨rfl, (by repeat' (first | (with_reducible exact Below.refl _ _) | (with_reducible refine Below.alloc ?_ ?_ _) | (with_reducible refine Below.setCell ?_ ?_ _) | (with_reducible refine below_drewN ?_ _) | (with_reducible refine Below.drew ?_) | (with_reducible refine below_step (by assumption) ?_ ?_) | omega | (simp; done) | (simp; omega)))⟩
theorem fnWords.own : ownKnob Tryd.prog.godebug = none := by kernel_rfl
theorem fnWords.laidOut : laidOutB Tryd.prog = true := by kernel_rfl
set_option linter.unusedVariables false in
set_option maxRecDepth 100000 in
theorem fnWords.lifted (os : Os) (started : os.Started) (H : Type) (enc : TypeId × Value → H) :
    ReturnsInHanded {} Tryd.checked os 9 .any (fun w args => (Rows.fnWordsSpec.pre enc Tryd.prog Tryd.f9 [] false w args ∧ laidMetH Tryd.prog laid5 w) ∧ sizedMet enc Tryd.prog Tryd.f9 (OpenSpec.ofChange Rows.fnWordsSpec) false w args)
      (Rows.fnWordsSpec.post enc Tryd.prog Tryd.f9 false true false false) := by
  refine returnsInHanded_of_change_and (C := Tryd.checked) (X := fun w _ => laidMetH Tryd.prog laid5 w) (fun _ _ _ hh h => h.of_heap hh) fnWords.own started (by kernel_rfl) Tryd.func9
    (ChangeSpec.witness_shaped (enc := enc) (C := Tryd.checked) (os := os) (X := fun w _ => laidMetH Tryd.prog laid5 w) false (World.doorLaid Tryd.prog 4000 os) #[.slice none 0 0] 8 rfl (World.shaped_of_RefB (by kernel_rfl) (by kernel_rfl)) (by kernel_rfl) (by kernel_rfl) (by kernel_rfl) (door_met5 os _)) ?_
  intro W base args ds gs before hval0 hW _ _ hL _
  have hval : ∀ (j : Nat) t v, Tryd.f9.params[j]? = some t → args[j]? = some v → Value.okWide Tryd.prog W .any base t v := hval0
  have hW' := hW
  obtain ⟨p, q, hA0, hV, rfl, hfz, hnd⟩ := hW
  have hA : DataW.TrodAll enc Tryd.prog W 0 (fun _ => true) true Tryd.f9.params.toList args.toList ds p := hA0
  rw [Tryd.params9] at hA hval
  obtain ⟨v0, vs0, d0, ds0, p0, q0, hargs, rfl, rfl, h0, r0⟩ := trodAll_cons hA
  obtain ⟨rfl, rfl, rfl⟩ := trodAll_nil r0
  obtain rfl : args = #[v0] := by cases args; simp_all
  obtain ⟨rfl, rfl⟩ := trodVars_none hV
  have k0 := h0
  have lt0 : ∀ x ∈ p0, x.block < W.heap.size := by obtain ⟨m, hm⟩ := k0; exact DataW.trod_lt m _ _ _ hm
  obtain ⟨x0, s0⟩ := open_bytesL Tryd.underlying52 Tryd.underlying5 (by kernel_rfl) (hval 0 52 v0 rfl rfl) h0
  clear hA0 hval0
  refine (walk_FnWords W (tab_of_laid5 hL) (errs_of_laid hL) v0 x0 s0).mono fun e W' ⟨he, bel⟩ => ?_
  subst he
  exact ⟨_, rfl, _, _, _, [], _, [], hW', trodAll_mk1 (shut_bool Tryd.underlying4 _), (trodAll_cons_mk (Below.trod fnWords.laidOut (by kernel_rfl) (of_decide_eq_true (by kernel_rfl)) k0 bel lt0) trodAll_mk0), rfl, bel.frame _, fun h => by cases h⟩
theorem fnWords.over : Rows.fnWordsRow.holds Tryd.pinned (OpenSpec.ofChange Rows.fnWordsSpec) :=
  OpenClaim.holds_of_wide 9 Tryd.f9 rfl rfl rfl rfl rfl rfl rfl ⟨rfl, rfl, rfl, rfl, rfl⟩ rfl rfl rfl rfl rfl (by kernel_rfl) Tryd.func9 (by kernel_rfl)
    (of_decide_eq_true (by kernel_rfl)) (by unfold Func.isWrapper; first | (rw [if_pos (by decide +kernel)]; kernel_rfl) | (rw [if_neg (by decide +kernel)]; exact ⟨rfl, rfl⟩))
    (fun os started H enc _ => fnWords.lifted os started H enc)
/-- THE STATEMENT: the tied card. -/
theorem fnWords_holds : Rows.FnWordsCardSaid :=
  Claim7.holds_tied_plain_at .later [] [.data, .data, .data, .sentinel, .sentinel] true Rows.fnWordsCard.stood.harness true
    fnWords.over (fun _ h => by cases h) (by kernel_rfl) (fun _ h => by cases h) fnWords_row_tie rfl ⟨rfl, rfl⟩ (by kernel_rfl) rfl
    (fun f fn hf hfn => by
      obtain rfl : f = 9 := Option.some.inj ((show Tryd.prog.funcNamed Rows.fnWordsRow.func = some 9 by kernel_rfl).symm.trans hf) |>.symm
      obtain rfl : fn = Tryd.f9 := (Option.some.inj (Tryd.func9.symm.trans hfn)).symm
      exact ⟨by kernel_rfl, fun j t ht => by
        rw [Tryd.params9] at ht
        have hm : t ∈ ([52] : List TypeId) := by simpa using Array.mem_of_getElem? ht
        have hall : (([52] : List TypeId).all fun u => !Tryd.prog.wantsStandIn u) = true := by kernel_rfl
        exact (show Tryd.prog.wantsStandIn t = false by simpa using List.all_eq_true.1 hall t hm)⟩)
    (by kernel_rfl)
#print axioms fnWords_holds
end Go.Proofs.YticekjagmcphbaaDoor
