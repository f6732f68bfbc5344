/-
  FnExactBetween, proved: for all two poses the law returns true. No further condition. Written by an AI agent.
-/
import Derived.Test.YtekppknakegadaaPose7
import Derived.Test.YtekppknakegadaaOpen
import Derived.Deep.RegionHeld3
import Derived.Deep.DeepCutAuto
namespace Go.Proofs.Ytekppknakegadaa
open Go.ChangeShapes Go.WideShapes Go.ChangeAt Go.RowKit

set_option maxHeartbeats 2000000 in
theorem walk_FnExactBetween (w : World) (t x y : Int) (_hf : Wf [t, x, y]) (t' x' y' : Int) (_hf' : Wf [t', x', y']) :
    Calls Try.prog 5 #[.agg #[.int .i64 t, .int .i64 x, .int .i64 y], .agg #[.int .i64 t', .int .i64 x', .int .i64 y']] w fun e w' => e = .returned (.bool true) ∧ Below w.heap.size w w' := by
  obtain ⟨⟨ct, cx, cy⟩, hr⟩ : ∃ r, r = comp (inv ⟨t, x, y⟩) ⟨t', x', y'⟩ := ⟨_, rfl⟩
  have HR := Lib.hid hr; clear hr
  go_enter Try.func5, Try.ntmps5
  go_upto_region 1 with fail
  go_cut [5] (fun s wx => ∃ g, s = .pointer (some ⟨g, 0, none⟩) ∧ w.heap.size + 1 < g ∧ g < wx.heap.size ∧ wx.cell? ⟨g, 0, none⟩ = some (.int .i64 ct) ∧ wx.cell? ⟨g, 1, none⟩ = some (.int .i64 cx) ∧ wx.cell? ⟨g, 2, none⟩ = some (.int .i64 cy) ∧
    Below (w.heap.size + 2) ((w.alloc (.cells #[.int .i64 t, .int .i64 x, .int .i64 y] 23)).alloc (.cells #[.int .i64 t', .int .i64 x', .int .i64 y'] 23)) wx)
  case first =>
    have zz : w.heap.size < w.heap.size + 1 + 1 := by omega
    have nn := Nat.ne_of_lt zz
    have mm := (Nat.ne_of_lt zz).symm
    go_region_held3 (fun w' => w'.cell? ⟨w.heap.size, 0, none⟩ = some (.int .i64 t) ∧ w'.cell? ⟨w.heap.size, 1, none⟩ = some (.int .i64 x) ∧ w'.cell? ⟨w.heap.size, 2, none⟩ = some (.int .i64 y) ∧ w'.cell? ⟨w.heap.size + 1, 0, none⟩ = some (.int .i64 t') ∧ w'.cell? ⟨w.heap.size + 1, 1, none⟩ = some (.int .i64 x') ∧ w'.cell? ⟨w.heap.size + 1, 2, none⟩ = some (.int .i64 y')) (go_keep)
      (first
        | (go_at_call 16; refine (laws_toPose _ _ _ _).mono ?_; rintro e w1 ⟨rfl, b1⟩; obtain ⟨hc, hf⟩ := bcell b1; have q0 := fun o => hc (w.heap.size) o (by first | omega | (simp; done) | (simp; omega)); have q1 := fun o => hc (w.heap.size + 1) o (by first | omega | (simp; done) | (simp; omega)); have hz := b1.size; (try simp at hz); have z0 : w.heap.size < w1.heap.size := (by omega); have n0 := Nat.ne_of_lt z0; have m0 := (Nat.ne_of_lt z0).symm; have z1 : w.heap.size + 1 < w1.heap.size := (by omega); have n1 := Nat.ne_of_lt z1; have m1 := (Nat.ne_of_lt z1).symm; (try have y0 : w.heap.size + 1 + 1 < w1.heap.size := (by omega)); (try have hs := Nat.lt_of_succ_le hz))
        | (go_at_call 21; refine (spec_BetweenR _ _ ⟨ct, cx, cy⟩ HR.out _).mono ?_; rintro e w1 ⟨rfl, b1⟩; obtain ⟨hc, hf⟩ := bcell b1; have q0 := fun o => hc (w.heap.size) o (by first | omega | (simp; done) | (simp; omega)); have q1 := fun o => hc (w.heap.size + 1) o (by first | omega | (simp; done) | (simp; omega)); have hz := b1.size; (try simp at hz); have z0 : w.heap.size < w1.heap.size := (by omega); have n0 := Nat.ne_of_lt z0; have m0 := (Nat.ne_of_lt z0).symm; have z1 : w.heap.size + 1 < w1.heap.size := (by omega); have n1 := Nat.ne_of_lt z1; have m1 := (Nat.ne_of_lt z1).symm; (try have y0 : w.heap.size + 1 + 1 < w1.heap.size := (by omega)); (try have hs := Nat.lt_of_succ_le hz)))
    all_goals (go_wp2_with fail; go_meet; exact ⟨_, rfl, (by first | omega | (simp; done) | (simp; omega)), (by first | omega | (simp; done) | (simp; omega)), by simp [go_sem, *], by simp [go_sem, *], by simp [go_sem, *], (by repeat' (first | (with_reducible exact Below.refl _ _) | (with_reducible refine Below.alloc ?_ ?_ _) | (with_reducible refine Below.setCell ?_ ?_ _) | (with_reducible refine below_drewN ?_ _) | (with_reducible refine Below.drew ?_) | (with_reducible refine below_step (by assumption) ?_ ?_) | omega | (simp; done) | (simp; omega)))⟩)
  case rest =>
    obtain ⟨g, rfl, hg, hgs, g0, g1, g2, hb⟩ := hcut
    have k0 : wc.cell? ⟨w.heap.size, 0, none⟩ = some (.int .i64 t) := (hb.cell (p := ⟨w.heap.size, 0, none⟩) (by simp)).trans (by simp [go_sem])
    have k1 : wc.cell? ⟨w.heap.size, 1, none⟩ = some (.int .i64 x) := (hb.cell (p := ⟨w.heap.size, 1, none⟩) (by simp)).trans (by simp [go_sem])
    have k2 : wc.cell? ⟨w.heap.size, 2, none⟩ = some (.int .i64 y) := (hb.cell (p := ⟨w.heap.size, 2, none⟩) (by simp)).trans (by simp [go_sem])
    have k3 : wc.cell? ⟨w.heap.size + 1, 0, none⟩ = some (.int .i64 t') := (hb.cell (p := ⟨w.heap.size + 1, 0, none⟩) (by simp)).trans (by simp [go_sem])
    have k4 : wc.cell? ⟨w.heap.size + 1, 1, none⟩ = some (.int .i64 x') := (hb.cell (p := ⟨w.heap.size + 1, 1, none⟩) (by simp)).trans (by simp [go_sem])
    have k5 : wc.cell? ⟨w.heap.size + 1, 2, none⟩ = some (.int .i64 y') := (hb.cell (p := ⟨w.heap.size + 1, 2, none⟩) (by simp)).trans (by simp [go_sem])
    have zz : w.heap.size < wc.heap.size := by omega
    have zz1 : w.heap.size + 1 < wc.heap.size := by omega
    have nn := Nat.ne_of_lt zz
    have mm := (Nat.ne_of_lt zz).symm
    have nn1 := Nat.ne_of_lt zz1
    have mm1 := (Nat.ne_of_lt zz1).symm
    have nng := Nat.ne_of_lt hgs
    have mmg := (Nat.ne_of_lt hgs).symm
    go_wp2_with fail
    go_region_held3 (fun w' => w'.cell? ⟨w.heap.size, 0, none⟩ = some (.int .i64 t) ∧ w'.cell? ⟨w.heap.size, 1, none⟩ = some (.int .i64 x) ∧ w'.cell? ⟨w.heap.size, 2, none⟩ = some (.int .i64 y) ∧ w'.cell? ⟨w.heap.size + 1, 0, none⟩ = some (.int .i64 t') ∧ w'.cell? ⟨w.heap.size + 1, 1, none⟩ = some (.int .i64 x') ∧ w'.cell? ⟨w.heap.size + 1, 2, none⟩ = some (.int .i64 y')) (go_keep)
      (first
        | (go_at_call 16; refine (laws_toPose _ _ _ _).mono ?_; rintro e w1 ⟨rfl, b1⟩; obtain ⟨hc, hf⟩ := bcell b1; have q0 := fun o => hc (w.heap.size) o (by first | omega | (simp; done) | (simp; omega)); have q1 := fun o => hc (w.heap.size + 1) o (by first | omega | (simp; done) | (simp; omega)); have q2 := fun o => hc (g) o (by first | omega | (simp; done) | (simp; omega)); have hz := b1.size; (try simp at hz); have z0 : w.heap.size < w1.heap.size := (by omega); have n0 := Nat.ne_of_lt z0; have m0 := (Nat.ne_of_lt z0).symm; have z1 : w.heap.size + 1 < w1.heap.size := (by omega); have n1 := Nat.ne_of_lt z1; have m1 := (Nat.ne_of_lt z1).symm; have z2 : g < w1.heap.size := (by omega); have n2 := Nat.ne_of_lt z2; have m2 := (Nat.ne_of_lt z2).symm; (try have y0 : wc.heap.size < w1.heap.size := (by omega)); (try have hs := Nat.lt_of_succ_le hz))
        | (go_at_call 22; refine (impl_BetweenR _ _ ⟨ct, cx, cy⟩ HR.out _).mono ?_; rintro e w1 ⟨rfl, b1⟩; obtain ⟨hc, hf⟩ := bcell b1; have q0 := fun o => hc (w.heap.size) o (by first | omega | (simp; done) | (simp; omega)); have q1 := fun o => hc (w.heap.size + 1) o (by first | omega | (simp; done) | (simp; omega)); have q2 := fun o => hc (g) o (by first | omega | (simp; done) | (simp; omega)); have hz := b1.size; (try simp at hz); have z0 : w.heap.size < w1.heap.size := (by omega); have n0 := Nat.ne_of_lt z0; have m0 := (Nat.ne_of_lt z0).symm; have z1 : w.heap.size + 1 < w1.heap.size := (by omega); have n1 := Nat.ne_of_lt z1; have m1 := (Nat.ne_of_lt z1).symm; have z2 : g < w1.heap.size := (by omega); have n2 := Nat.ne_of_lt z2; have m2 := (Nat.ne_of_lt z2).symm; (try have y0 : wc.heap.size < w1.heap.size := (by omega)); (try have hs := Nat.lt_of_succ_le hz)))
    all_goals
      go_wp2_with fail
      refine (laws_eqPose ⟨ct, cx, cy⟩ ⟨ct, cx, cy⟩ _).mono ?_
      rintro e w9 ⟨rfl, b9⟩
      rw [P3.same_self]
      go_wp2
      go_ret
      exact ⟨rfl, (by repeat' (first | (with_reducible exact Below.refl _ _) | (with_reducible refine Below.alloc ?_ ?_ _) | (with_reducible refine Below.setCell ?_ ?_ _) | (with_reducible refine below_drewN ?_ _) | (with_reducible refine Below.drew ?_) | (with_reducible refine below_step (by assumption) ?_ ?_) | omega | (simp; done) | (simp; omega)))⟩
theorem fnExactBetween.own : ownKnob Try.prog.godebug = none := by kernel_rfl
theorem fnExactBetween.laidOut : laidOutB Try.prog = true := by kernel_rfl
set_option linter.unusedVariables false in
set_option maxRecDepth 100000 in
theorem fnExactBetween.lifted (os : Os) (started : os.Started) (H : Type) (enc : TypeId × Value → H) :
    ReturnsInHanded {} Try.checked os 5 .any (Rows.fnExactBetweenSpec.pre6 enc Try.prog Try.f5 Rows.fnExactBetweenRow.domain false) (Rows.fnExactBetweenSpec.post enc Try.prog Try.f5 false true false false) := by
  refine returnsInHanded_of_change (C := Try.checked) fnExactBetween.own started (by kernel_rfl) Try.func5
    (ChangeSpec.witness6 (enc := enc) (C := Try.checked) false ⟨#[], #[.agg #[.int .i64 0, .int .i64 0, .int .i64 0], .agg #[.int .i64 0, .int .i64 0, .int .i64 0]], []⟩ 8 (by kernel_rfl) (by kernel_rfl) (by kernel_rfl) (by kernel_rfl)) ?_
  intro W base args ds gs before hval0 hW hcnd _
  have hval : ∀ (j : Nat) t v, Try.f5.params[j]? = some t → args[j]? = some v → Value.okWide Try.prog W .any base t v := hval0
  have hW' := hW
  obtain ⟨p, q, hA0, hV, rfl, hfz, hnd⟩ := hW
  have hA : DataW.TrodAll enc Try.prog W 0 (fun _ => true) true Try.f5.params.toList args.toList ds p := hA0
  rw [Try.params5] at hA hval
  obtain ⟨v0, vs0, d0, ds0, p0, q0, hargs, rfl, rfl, h0, r0⟩ := trodAll_cons hA
  obtain ⟨v1, vs1, d1, ds1, p1, q1, rfl, rfl, rfl, h1, r1⟩ := trodAll_cons r0
  obtain ⟨rfl, rfl, rfl⟩ := trodAll_nil r1
  obtain rfl : args = #[v0, v1] := by cases args; simp_all
  obtain ⟨rfl, rfl⟩ := trodVars_none hV
  have k0 := h0
  have lt0 : ∀ x ∈ p0, x.block < W.heap.size := by obtain ⟨m, hm⟩ := k0; exact DataW.trod_lt m _ _ _ hm
  have k1 := h1
  have lt1 : ∀ x ∈ p1, x.block < W.heap.size := by obtain ⟨m, hm⟩ := k1; exact DataW.trod_lt m _ _ _ hm
  obtain ⟨a0, b0, c0, rfl, f0⟩ := open_poseL Try.underlying23 (by kernel_rfl) (by kernel_rfl) rfl rfl rfl Try.underlying3 (hval 0 23 v0 rfl rfl) h0
  obtain ⟨a1, b1, c1, rfl, f1⟩ := open_poseL Try.underlying23 (by kernel_rfl) (by kernel_rfl) rfl rfl rfl Try.underlying3 (hval 1 23 v1 rfl rfl) h1
  clear hA0 hval0
  refine (walk_FnExactBetween W a0 b0 c0 f0 a1 b1 c1 f1).mono fun e W' ⟨he, bel⟩ => ?_
  subst he
  exact ⟨_, rfl, _, _, _, [], _, [], hW', trodAll_mk1 (shut_bool Try.underlying4 _), (trodAll_cons_mk (Below.trod fnExactBetween.laidOut (by kernel_rfl) (of_decide_eq_true (by kernel_rfl)) k0 bel lt0) (trodAll_cons_mk (Below.trod fnExactBetween.laidOut (by kernel_rfl) (of_decide_eq_true (by kernel_rfl)) k1 bel lt1) trodAll_mk0)), rfl, bel.frame _, fun h => by cases h⟩
theorem fnExactBetween.over : Rows.fnExactBetweenRow.holds Try.pinned (OpenSpec.ofChange Rows.fnExactBetweenSpec) :=
  OpenClaim.holds_of_wide 5 Try.f5 rfl rfl rfl rfl rfl rfl rfl ⟨rfl, rfl, rfl, rfl, rfl⟩ rfl rfl rfl rfl rfl (by kernel_rfl) Try.func5 (by kernel_rfl)
    (of_decide_eq_true (by kernel_rfl)) (by unfold Func.isWrapper; first | (rw [if_pos (by decide +kernel)]; kernel_rfl) | (rw [if_neg (by decide +kernel)]; exact ⟨rfl, rfl⟩))
    (fun os started H enc _ => fnExactBetween.lifted os started H enc)
/-- THE STATEMENT. -/
theorem fnExactBetween_holds : Rows.FnExactBetweenSaid := fnExactBetween.over
#print axioms fnExactBetween_holds
end Go.Proofs.Ytekppknakegadaa
