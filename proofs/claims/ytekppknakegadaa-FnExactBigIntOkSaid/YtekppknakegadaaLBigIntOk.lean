/-
  FnExactBigIntOk, proved: for every big int the law returns true. No further condition. Written by an AI agent.
-/
import Derived.Test.YtekppknakegadaaBigOk
import Derived.Test.YtekppknakegadaaOpen
import Derived.Deep.RegionHeld3
import Derived.Deep.DeepCutAuto
namespace Go.Proofs.Ytekppknakegadaa
open Go.ChangeShapes Go.WideShapes Go.ChangeAt Go.RowKit

set_option maxHeartbeats 2000000 in
theorem walk_FnExactBigIntOk (w : World) (s : Bool) (v : Value) (xs : List Int) (h : Sl w v xs) (_f : Wf xs) :
    Calls Try.prog 11 #[.agg #[.bool s, v]] w fun e w' => e = .returned (.bool true) ∧ Below w.heap.size w w' := by
  clear _f
  have hs := h
  obtain ⟨A, c, rfl, p1, p2, p3⟩ := h
  have HS := Lib.hid hs
  clear hs p3
  have hm : xs.length ≤ 9223372036854775807 := by unfold maxLen at p2; omega
  have hsz := fun W => laws_szBigInt s A xs.length c 1048576 W hm (by omega) (by omega)
  by_cases hbig : (1048576 : Int) - xs.length < 0
  · have HC : ∀ W, Hid _ := fun W => Lib.hid (by have := hsz W; rwa [if_pos hbig] at this)
    clear hsz
    go_enter Try.func11, Try.ntmps11
    go_wp2_with fail
    refine (HC _).out.mono ?_
    rintro e w1 ⟨rfl, b1⟩
    go_wp2
    go_ret
    exact ⟨rfl, (by repeat' (first | (with_reducible exact Below.refl _ _) | (with_reducible refine Below.alloc ?_ ?_ _) | (with_reducible refine Below.setCell ?_ ?_ _) | (with_reducible refine below_drewN ?_ _) | (with_reducible refine Below.drew ?_) | (with_reducible refine below_step (by assumption) ?_ ?_) | omega | (simp; done) | (simp; omega)))⟩
  · have HC : ∀ W, Hid _ := fun W => Lib.hid (by have := hsz W; rwa [if_neg hbig] at this)
    clear hsz
    obtain ⟨r, hr⟩ : ∃ r, r = bigOk s xs := ⟨_, rfl⟩
    have HR := Lib.hid hr
    have hne : (r != r) = false := by simp
    clear hr
    go_enter Try.func11, Try.ntmps11
    go_wp2_with fail
    refine (HC _).out.mono ?_
    rintro e w1 ⟨rfl, b1⟩
    obtain ⟨hc1, hf1⟩ := bxcell b1
    have hz1 := b1.size
    simp at hz1
    have z_w1_0 : w.heap.size < w1.heap.size := (by omega)
    go_wp2_with fail
    refine (laws_toBigInt s A _ c xs _ (HS.out.below (by repeat' (first | (with_reducible exact Below.refl _ _) | (with_reducible refine Below.alloc ?_ ?_ _) | (with_reducible refine Below.setCell ?_ ?_ _) | (with_reducible refine below_drewN ?_ _) | (with_reducible refine Below.drew ?_) | (with_reducible refine below_step (by assumption) ?_ ?_) | omega | (simp; done) | (simp; omega)))) (by omega)).mono ?_
    rintro e w2 ⟨A2, n2, c2, rfl, o2, b2⟩
    obtain ⟨hc2, hf2⟩ := bxcell b2
    have hz2 := b2.size
    have O2 := Lib.hid o2
    clear o2
    have z_w2_0 : w.heap.size < w2.heap.size := (by omega)
    go_wp2_with fail
    refine (spec_BigIntOk s A2 n2 c2 xs _ O2.out.sl).mono ?_
    rintro e w3 ⟨rfl, b3⟩
    rw [← HR.out]
    obtain ⟨hc3, hf3⟩ := bxcell b3
    have hz3 := b3.size
    have z_w3_0 : w.heap.size < w3.heap.size := (by omega)
    go_wp2_with fail
    refine (laws_toBigInt s A _ c xs _ (HS.out.below (by repeat' (first | (with_reducible exact Below.refl _ _) | (with_reducible refine Below.alloc ?_ ?_ _) | (with_reducible refine Below.setCell ?_ ?_ _) | (with_reducible refine below_drewN ?_ _) | (with_reducible refine Below.drew ?_) | (with_reducible refine below_step (by assumption) ?_ ?_) | omega | (simp; done) | (simp; omega)))) (by omega)).mono ?_
    rintro e w4 ⟨A4, n4, c4, rfl, o4, b4⟩
    obtain ⟨hc4, hf4⟩ := bxcell b4
    have hz4 := b4.size
    have O4 := Lib.hid (OwnR.of o4)
    clear o4
    have z_w4_0 : w.heap.size < w4.heap.size := (by omega)
    go_wp2_with fail
    refine (impl_BigIntOk s A4 n4 c4 xs _ ((O4.out.here (by repeat' (first | (with_reducible exact Below.refl _ _) | (with_reducible refine Below.alloc ?_ ?_ _) | (with_reducible refine Below.setCell ?_ ?_ _) | (with_reducible refine below_drewN ?_ _) | (with_reducible refine Below.drew ?_) | (with_reducible refine below_step (by assumption) ?_ ?_) | omega | (simp; done) | (simp; omega)))).sl)).mono ?_
    rintro e w5 ⟨rfl, b5⟩
    rw [← HR.out]
    obtain ⟨hc5, hf5⟩ := bxcell b5
    have hz5 := b5.size
    simp at hz5
    have z_w5_0 : w.heap.size < w5.heap.size := (by omega)
    have zz : w4.heap.size < w5.heap.size := by omega
    have zz2 : w.heap.size < w4.heap.size + 1 := by omega
    have k0 : w5.cell? ⟨w.heap.size, 0, none⟩ = some (.bool s) := by rw [hc5 _ _ (by simp; omega)]; simp [go_sem, *]
    have k1 : w5.cell? ⟨w.heap.size, 1, none⟩ = some (.slice A xs.length c) := by rw [hc5 _ _ (by simp; omega)]; simp [go_sem, *]
    go_wp2_with fail
    go_region_held3 (fun w' => w'.cell? ⟨w.heap.size, 0, none⟩ = some (.bool s) ∧ w'.cell? ⟨w.heap.size, 1, none⟩ = some (.slice A xs.length c) ∧ w'.cell? ⟨w4.heap.size, 0, none⟩ = some (.bool s) ∧ w'.cell? ⟨w4.heap.size, 1, none⟩ = some (.slice A4 n4 c4)) (go_keep)
      (first
        | (go_at_call 45; refine (laws_toBigInt s A xs.length c xs _ ?_ ?_).mono ?_; exact (HS.out.below (by repeat' (first | (with_reducible exact Below.refl _ _) | (with_reducible refine Below.alloc ?_ ?_ _) | (with_reducible refine Below.setCell ?_ ?_ _) | (with_reducible refine below_drewN ?_ _) | (with_reducible refine Below.drew ?_) | (with_reducible refine below_step (by assumption) ?_ ?_) | omega | (simp; done) | (simp; omega)))); omega; rintro e w6 ⟨A6, n6, c6, rfl, o6, b6⟩; obtain ⟨hc, hf⟩ := bxcell b6; have q0 := fun o => hc w.heap.size o (by first | omega | (simp; done) | (simp; omega)); have q1 := fun o => hc w4.heap.size o (by first | omega | (simp; done) | (simp; omega)); have hz6 := b6.size; (try simp at hz6))
        | (go_at_call 47; refine (eqBig s _ _ _ _ _ _ xs _ ?_ ?_).mono ?_; exact (O4.out.here (by repeat' (first | (with_reducible exact Below.refl _ _) | (with_reducible refine Below.alloc ?_ ?_ _) | (with_reducible refine Below.setCell ?_ ?_ _) | (with_reducible refine below_drewN ?_ _) | (with_reducible refine Below.drew ?_) | (with_reducible refine below_step (by assumption) ?_ ?_) | omega | (simp; done) | (simp; omega)))).sl; exact (OwnR.here (OwnR.of o6) (by repeat' (first | (with_reducible exact Below.refl _ _) | (with_reducible refine Below.alloc ?_ ?_ _) | (with_reducible refine Below.setCell ?_ ?_ _) | (with_reducible refine below_drewN ?_ _) | (with_reducible refine Below.drew ?_) | (with_reducible refine below_step (by assumption) ?_ ?_) | omega | (simp; done) | (simp; omega)))).sl; rintro e w7 ⟨rfl, b7⟩; obtain ⟨hc7, hf7⟩ := bxcell b7; have s0 := fun o => hc7 w.heap.size o (by first | omega | (simp; done) | (simp; omega)); have s1 := fun o => hc7 w4.heap.size o (by first | omega | (simp; done) | (simp; omega))))
    all_goals
      go_wp2
      go_ret
      exact ⟨rfl, (by repeat' (first | (with_reducible exact Below.refl _ _) | (with_reducible refine Below.alloc ?_ ?_ _) | (with_reducible refine Below.setCell ?_ ?_ _) | (with_reducible refine below_drewN ?_ _) | (with_reducible refine Below.drew ?_) | (with_reducible refine below_step (by assumption) ?_ ?_) | omega | (simp; done) | (simp; omega)))⟩
theorem fnExactBigIntOk.own : ownKnob Try.prog.godebug = none := by kernel_rfl
theorem fnExactBigIntOk.laidOut : laidOutB Try.prog = true := by kernel_rfl
set_option linter.unusedVariables false in
set_option maxRecDepth 100000 in
theorem fnExactBigIntOk.lifted (os : Os) (started : os.Started) (H : Type) (enc : TypeId × Value → H) :
    ReturnsInHanded {} Try.checked os 11 .any (Rows.fnExactBigIntOkSpec.pre6 enc Try.prog Try.f11 Rows.fnExactBigIntOkRow.domain false) (Rows.fnExactBigIntOkSpec.post enc Try.prog Try.f11 false true false false) := by
  refine returnsInHanded_of_change (C := Try.checked) fnExactBigIntOk.own started (by kernel_rfl) Try.func11
    (ChangeSpec.witness6 (enc := enc) (C := Try.checked) false ⟨#[], #[.agg #[.bool false, .slice none 0 0]], []⟩ 8 (by kernel_rfl) (by kernel_rfl) (by kernel_rfl) (by kernel_rfl)) ?_
  intro W base args ds gs before hval0 hW hcnd _
  have hval : ∀ (j : Nat) t v, Try.f11.params[j]? = some t → args[j]? = some v → Value.okWide Try.prog W .any base t v := hval0
  have hW' := hW
  obtain ⟨p, q, hA0, hV, rfl, hfz, hnd⟩ := hW
  have hA : DataW.TrodAll enc Try.prog W 0 (fun _ => true) true Try.f11.params.toList args.toList ds p := hA0
  rw [Try.params11] at hA hval
  obtain ⟨v0, vs0, d0, ds0, p0, q0, hargs, rfl, rfl, h0, r0⟩ := trodAll_cons hA
  obtain ⟨rfl, rfl, rfl⟩ := trodAll_nil r0
  obtain rfl : args = #[v0] := by cases args; simp_all
  obtain ⟨rfl, rfl⟩ := trodVars_none hV
  have k0 := h0
  have lt0 : ∀ x ∈ p0, x.block < W.heap.size := by obtain ⟨m, hm⟩ := k0; exact DataW.trod_lt m _ _ _ hm
  obtain ⟨n0, u0, x0, rfl, s0, f0⟩ := open_bigL Try.underlying53 (by kernel_rfl) (by kernel_rfl) rfl rfl Try.underlying4 Try.underlying45 Try.underlying3 (by kernel_rfl) (hval 0 53 v0 rfl rfl) h0
  clear hA0 hval0
  refine (walk_FnExactBigIntOk W n0 u0 x0 s0 f0).mono fun e W' ⟨he, bel⟩ => ?_
  subst he
  exact ⟨_, rfl, _, _, _, [], _, [], hW', trodAll_mk1 (shut_bool Try.underlying4 _), (trodAll_cons_mk (Below.trod fnExactBigIntOk.laidOut (by kernel_rfl) (of_decide_eq_true (by kernel_rfl)) k0 bel lt0) trodAll_mk0), rfl, bel.frame _, fun h => by cases h⟩
theorem fnExactBigIntOk.over : Rows.fnExactBigIntOkRow.holds Try.pinned (OpenSpec.ofChange Rows.fnExactBigIntOkSpec) :=
  OpenClaim.holds_of_wide 11 Try.f11 rfl rfl rfl rfl rfl rfl rfl ⟨rfl, rfl, rfl, rfl, rfl⟩ rfl rfl rfl rfl rfl (by kernel_rfl) Try.func11 (by kernel_rfl)
    (of_decide_eq_true (by kernel_rfl)) (by unfold Func.isWrapper; first | (rw [if_pos (by decide +kernel)]; kernel_rfl) | (rw [if_neg (by decide +kernel)]; exact ⟨rfl, rfl⟩))
    (fun os started H enc _ => fnExactBigIntOk.lifted os started H enc)
/-- THE STATEMENT. -/
theorem fnExactBigIntOk_holds : Rows.FnExactBigIntOkSaid := fnExactBigIntOk.over
#print axioms fnExactBigIntOk_holds
end Go.Proofs.Ytekppknakegadaa
