/-
  FnExactComposeAll, proved: for every list of poses the law returns true. No further condition. Written by an AI agent.
-/
import Derived.Test.YtekppknakegadaaPoseV
import Derived.Test.YtekppknakegadaaOpenP

namespace Go.Proofs.Ytekppknakegadaa
open Go.ChangeShapes Go.WideShapes Go.ChangeAt Go.RowKit

set_option maxHeartbeats 1000000 in
theorem walk_FnExactComposeAll (w : World) (v : Value) (ps : List P3) (h : SlP w v ps) :
    Calls Try.prog 6 #[v] w fun e w' => e = .returned (.bool true) ∧ Below w.heap.size w w' := by
  have hS := Lib.hid h
  obtain ⟨A, c, rfl, h1, h2, h3⟩ := h
  clear h3
  have hm : ps.length ≤ 9223372036854775807 := by unfold maxLen at h2; omega
  obtain ⟨⟨ct, cx, cy⟩, hr⟩ : ∃ r, r = (compFrom P3.zero ps).1 := ⟨_, rfl⟩
  have HR := Lib.hid hr; clear hr
  by_cases hbig : 1048576 < ps.length
  · go_enter Try.func6, Try.ntmps6
    go_wp2_with fail
    refine (laws_szPoseS _ _ _ _ hm).mono ?_
    rintro e w1 ⟨rfl, rfl⟩
    rw [if_neg (by omega)]
    go_wp2
    go_ret
    exact ⟨rfl, Below.refl _ _⟩
  · go_enter Try.func6, Try.ntmps6
    go_wp2_with fail
    refine (laws_szPoseS _ _ _ _ hm).mono ?_
    rintro e w1 ⟨rfl, rfl⟩
    rw [if_pos (by omega)]
    go_wp2_with fail
    refine (laws_toPoseS _ ps _ hS.out (by omega)).mono ?_
    rintro e w1 ⟨r1, rfl, s1, b1⟩
    go_wp2_with fail
    refine (spec_ComposeAll _ ps ⟨ct, cx, cy⟩ HR.out _ s1).mono ?_
    rintro e w2 ⟨rfl, b2⟩
    have hz1 := b1.size
    have hz2 := b2.size
    have B2 := below_step b2 hz1 b1
    go_wp2_with fail
    refine (laws_toPoseS _ ps _ (hS.out.below (by repeat' (first | (with_reducible exact Below.refl _ _) | (with_reducible refine Below.alloc ?_ ?_ _) | (with_reducible refine Below.setCell ?_ ?_ _) | (with_reducible refine below_drewN ?_ _) | (with_reducible refine Below.drew ?_) | (with_reducible refine below_step (by assumption) ?_ ?_) | omega | (simp; done) | (simp; omega)))) (by omega)).mono ?_
    rintro e w3 ⟨r3, rfl, s3, b3⟩
    obtain ⟨hc3, hf3⟩ := bcell b3
    have hz3 := b3.size
    simp at hz3
    have y3 : w2.heap.size < w3.heap.size := by omega
    go_wp2_with fail
    refine (impl_ComposeAll _ ps ⟨ct, cx, cy⟩ HR.out _ s3).mono ?_
    rintro e w4 ⟨rfl, b4⟩
    obtain ⟨hc4, hf4⟩ := bcell b4
    have hz4 := b4.size
    have y4 : w2.heap.size < w4.heap.size := by omega
    have nn4 := Nat.ne_of_lt y4
    go_wp2_with fail
    refine (laws_eqPose ⟨ct, cx, cy⟩ ⟨ct, cx, cy⟩ _).mono ?_
    rintro e w5 ⟨rfl, b5⟩
    rw [P3.same_self]
    have hz5 := b5.size
    simp at hz5
    go_wp2_with fail
    refine (laws_toPoseS _ ps _ (hS.out.below (by repeat' (first | (with_reducible exact Below.refl _ _) | (with_reducible refine Below.alloc ?_ ?_ _) | (with_reducible refine Below.setCell ?_ ?_ _) | (with_reducible refine below_drewN ?_ _) | (with_reducible refine Below.drew ?_) | (with_reducible refine below_step (by assumption) ?_ ?_) | omega | (simp; done) | (simp; omega)))) (by omega)).mono ?_
    rintro e w6 ⟨r6, rfl, s6, b6⟩
    have hz6 := b6.size
    go_wp2_with fail
    refine (laws_eqPoseS _ _ ps ps _ (s3.below (by repeat' (first | (with_reducible exact Below.refl _ _) | (with_reducible refine Below.alloc ?_ ?_ _) | (with_reducible refine Below.setCell ?_ ?_ _) | (with_reducible refine below_drewN ?_ _) | (with_reducible refine Below.drew ?_) | (with_reducible refine below_step (by assumption) ?_ ?_) | omega | (simp; done) | (simp; omega)))) s6).mono ?_
    rintro e w7 ⟨rfl, b7⟩
    rw [sameP_yes rfl]
    go_wp2
    go_ret
    exact ⟨rfl, (by repeat' (first | (with_reducible exact Below.refl _ _) | (with_reducible refine Below.alloc ?_ ?_ _) | (with_reducible refine Below.setCell ?_ ?_ _) | (with_reducible refine below_drewN ?_ _) | (with_reducible refine Below.drew ?_) | (with_reducible refine below_step (by assumption) ?_ ?_) | omega | (simp; done) | (simp; omega)))⟩
theorem fnExactComposeAll.own : ownKnob Try.prog.godebug = none := by kernel_rfl
theorem fnExactComposeAll.laidOut : laidOutB Try.prog = true := by kernel_rfl
set_option linter.unusedVariables false in
set_option maxRecDepth 100000 in
theorem fnExactComposeAll.lifted (os : Os) (started : os.Started) (H : Type) (enc : TypeId × Value → H) :
    ReturnsInHanded {} Try.checked os 6 .any (Rows.fnExactComposeAllSpec.pre6 enc Try.prog Try.f6 Rows.fnExactComposeAllRow.domain false) (Rows.fnExactComposeAllSpec.post enc Try.prog Try.f6 false true false false) := by
  refine returnsInHanded_of_change (C := Try.checked) fnExactComposeAll.own started (by kernel_rfl) Try.func6
    (ChangeSpec.witness6 (enc := enc) (C := Try.checked) false ⟨#[], #[.slice none 0 0], []⟩ 8 (by kernel_rfl) (by kernel_rfl) (by kernel_rfl) (by kernel_rfl)) ?_
  intro W base args ds gs before hval0 hW hcnd _
  have hval : ∀ (j : Nat) t v, Try.f6.params[j]? = some t → args[j]? = some v → Value.okWide Try.prog W .any base t v := hval0
  have hW' := hW
  obtain ⟨p, q, hA0, hV, rfl, hfz, hnd⟩ := hW
  have hA : DataW.TrodAll enc Try.prog W 0 (fun _ => true) true Try.f6.params.toList args.toList ds p := hA0
  rw [Try.params6] at hA hval
  obtain ⟨v0, vs0, d0, ds0, p0, q0, hargs, rfl, rfl, h0, r0⟩ := trodAll_cons hA
  obtain ⟨rfl, rfl, rfl⟩ := trodAll_nil r0
  obtain rfl : args = #[v0] := by cases args; simp_all
  obtain ⟨rfl, rfl⟩ := trodVars_none hV
  have k0 := h0
  have lt0 : ∀ x ∈ p0, x.block < W.heap.size := by obtain ⟨m, hm⟩ := k0; exact DataW.trod_lt m _ _ _ hm
  obtain ⟨x0, s0⟩ := open_posesL Try.underlying31 Try.underlying23 (by kernel_rfl) rfl rfl rfl (by kernel_rfl) Try.underlying3 (hval 0 31 v0 rfl rfl) h0
  clear hA0 hval0
  refine (walk_FnExactComposeAll W v0 x0 s0).mono fun e W' ⟨he, bel⟩ => ?_
  subst he
  exact ⟨_, rfl, _, _, _, [], _, [], hW', trodAll_mk1 (shut_bool Try.underlying4 _), (trodAll_cons_mk (Below.trod fnExactComposeAll.laidOut (by kernel_rfl) (of_decide_eq_true (by kernel_rfl)) k0 bel lt0) trodAll_mk0), rfl, bel.frame _, fun h => by cases h⟩
theorem fnExactComposeAll.over : Rows.fnExactComposeAllRow.holds Try.pinned (OpenSpec.ofChange Rows.fnExactComposeAllSpec) :=
  OpenClaim.holds_of_wide 6 Try.f6 rfl rfl rfl rfl rfl rfl rfl ⟨rfl, rfl, rfl, rfl, rfl⟩ rfl rfl rfl rfl rfl (by kernel_rfl) Try.func6 (by kernel_rfl)
    (of_decide_eq_true (by kernel_rfl)) (by unfold Func.isWrapper; first | (rw [if_pos (by decide +kernel)]; kernel_rfl) | (rw [if_neg (by decide +kernel)]; exact ⟨rfl, rfl⟩))
    (fun os started H enc _ => fnExactComposeAll.lifted os started H enc)
/-- THE STATEMENT. -/
theorem fnExactComposeAll_holds : Rows.FnExactComposeAllSaid := fnExactComposeAll.over
#print axioms fnExactComposeAll_holds
end Go.Proofs.Ytekppknakegadaa
