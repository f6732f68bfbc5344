/-
  FnNats, proved (the tied card): for every code the law returns true. The card's own condition: the listed library variables lie as their initialisers lay them. Written by an AI agent.
-/
import Derived.Test.YticekjagmcphbaaDoorNatsD
import Derived.Test.YticekjagmcphbaaDoorFmtN
import Derived.Test.YticekjagmcphbaaDoorParse
import Derived.Test.YticekjagmcphbaaDoorDivG
import Derived.Test.YticekjagmcphbaaDoorGcdS
import Derived.Test.YticekjagmcphbaaDoorMulF
import Derived.Test.YticekjagmcphbaaDoorAddF
import Derived.Test.YticekjagmcphbaaDoorLaid
import Derived.Test.YticekjagmcphbaaDoorCards
import Derived.Test.YticekjagmcphbaaDoorOpen
namespace Go.Proofs.YticekjagmcphbaaDoor
open Go.ChangeShapes Go.WideShapes Go.ChangeAt Go.RowKit

theorem put_top {n d : Nat} {k : Int} (h : n < pw d) (hk0 : 0 < k) (hk : k < 1000000000) : ∃ l, toL n ++ [k] = toL l ∧ 0 < l ∧ l < pw (d + 1) := by
  have hl : Limbs (toL n ++ [k]) := (limbs_toL n).append (Limbs.cons (by omega) hk Limbs.nil)
  have hlast : (toL n ++ [k]).getLast? ≠ some 0 := by
    rw [List.getLast?_append, List.getLast?_singleton, Option.some_or]
    intro h1
    have := Option.some.inj h1
    omega
  have h1 := toL_of_limbs hl hlast
  have h2 := val_lt hl
  rw [List.length_append, List.length_singleton] at h2
  have h3 : pw ((toL n).length + 1) ≤ pw (d + 1) := pw_le (by have := toL_len_lt h; omega)
  refine ⟨(val (toL n ++ [k])).toNat, h1.symm, ?_, ?_⟩
  · rcases Nat.eq_zero_or_pos (val (toL n ++ [k])).toNat with h4 | h4
    · rw [h4, toL_zero] at h1
      have := congrArg List.length h1
      simp at this
    · exact h4
  · have := pw_pos (d + 1)
    omega
theorem parse_dec {m : Nat} (h : m < pw 60) : parseNatF (decF m) = (toL m, true) := by
  have h1 : (decF m).data.toList = Lib.decDigits m := rfl
  have h2 : (decF m).size = (Lib.decDigits m).length := by rw [← list_size, h1]
  have h3 := parse_good (s := decF m) (by
    unfold digitsB
    rw [h1, dec_all, h2]
    simp [dec_ne]) (by rw [h2]; exact dec_len_pw h (by omega)) (by
    rw [h1, h2]
    rcases Nat.eq_zero_or_pos m with h4 | h4
    · subst h4
      left
      rw [dec_small (by omega)]
      rfl
    · exact .inr (dec_head h4))
  rw [h3, h1, num_dec]
theorem fmtNat_size0 {m : Nat} (h : m < pw 3) : (decF m).size ≤ 27 := by
  have h2 : (decF m).size = (Lib.decDigits m).length := by rw [← list_size]; rfl
  rw [h2]
  exact dec_len_pw h (by omega)
theorem limN_small {n : Nat} (h : n < pw 60) : limN n = n := by unfold limN; rw [if_pos h]
theorem ok_lt {m k : Nat} (h : m < pw k) (hk : k ≤ 60) : okB (toL m) = true := okB_of_toL (Nat.lt_of_lt_of_le h (pw_le hk))

set_option maxHeartbeats 8000000 in
theorem walk_FnNats (w : World) (ht : Tab w) (v0 : Value) (n : Nat) (h0 : SlB w w.heap.size v0 n) :
    Calls Tryd.prog 10 #[v0] w fun e w' => e = .returned (.bool true) ∧ Below w.heap.size w w' := by
  have HB := Lib.hid h0
  have HT := Lib.hid ht
  obtain ⟨A, c, rfl, s1, s2, s3⟩ := h0
  have hmx : n ≤ 9223372036854775807 := by unfold maxLen at s2; omega
  clear s3 ht
  by_cases hbig : 1048576 < n
  · go_enter Tryd.func10, Tryd.ntmps10
    go_wp2
    go_ret
    exact ⟨rfl, Below.refl _ _⟩
  go_enter Tryd.func10, Tryd.ntmps10
  go_wp2_with fail
  refine (spec_MakeNat _ n 0 _ HB.out (by omega) (by omega) (by omega)).mono ?_
  rintro e w1 ⟨r1, m, rfl, hm, o1, b1⟩
  have z1 := b1.size
  have O1 := Lib.hid (OwnR.of o1)
  have HM := Lib.hid hm
  clear o1 hm
  go_wp2_with fail
  refine (spec_MakeNat _ n 1 _ (HB.out.up (by repeat' (first | (with_reducible exact Below.refl _ _) | (with_reducible refine Below.alloc ?_ ?_ _) | (with_reducible refine Below.setCell ?_ ?_ _) | (with_reducible refine below_drewN ?_ _) | (with_reducible refine Below.drew ?_) | (with_reducible refine below_step (by assumption) ?_ ?_) | omega | (simp; done) | (simp; omega))) (by omega)) (by omega) (by omega) (by omega)).mono ?_
  rintro e w2 ⟨r2, l0, rfl, hl0, o2, b2⟩
  have z2 := b2.size
  have O2 := Lib.hid o2
  have hlen := toL_len_lt hl0
  obtain ⟨l, hl, hl1, hl2⟩ := put_top (k := 3) hl0 (by omega) (by omega)
  have HL := Lib.hid hl
  have HLP := Lib.hid hl1
  have HLL := Lib.hid hl2
  clear o2 hl0 hl hl1 hl2
  go_wp2_with (at_builtin; refine wpList_app1 _ rfl _ _ rfl Tryd.intP O2.out rfl rfl (by omega) z2 ?_; intro r3 w3 hown' b3 hg'; clear hg'; refine Hid.out ?_)
  refine Lib.hid ?_
  have z3 := b3.size
  have O3 := Lib.hid (OwnR.of (HL.out ▸ hown'))
  clear hown' hlen O2
  have HOM := Lib.hid (ok_lt HM.out (by omega))
  have HOL := Lib.hid (ok_lt HLL.out (by omega))
  have HLE := Lib.hid (toL_len_pos HLP.out)
  go_wp2_with fail
  refine (impl_NatDiv r1 r3 (toL m) (toL l) _ (OwnR.here O1.out (by repeat' (first | (with_reducible exact Below.refl _ _) | (with_reducible refine Below.alloc ?_ ?_ _) | (with_reducible refine Below.setCell ?_ ?_ _) | (with_reducible refine below_drewN ?_ _) | (with_reducible refine Below.drew ?_) | (with_reducible refine below_step (by assumption) ?_ ?_) | omega | (simp; done) | (simp; omega)))).sl (OwnR.here O3.out (by repeat' (first | (with_reducible exact Below.refl _ _) | (with_reducible refine Below.alloc ?_ ?_ _) | (with_reducible refine Below.setCell ?_ ?_ _) | (with_reducible refine below_drewN ?_ _) | (with_reducible refine Below.drew ?_) | (with_reducible refine below_step (by assumption) ?_ ?_) | omega | (simp; done) | (simp; omega)))).sl).mono ?_
  rw [natDivF_toL HOM.out HOL.out HLE.out]
  rintro e w4 ⟨r4, s4, lo4, hi4, lp4, hp4, rfl, o4, p4, u4, v4, d4, x4, y4, b4, la4, lb4⟩
  have z4 := b4.size
  have O4 := Lib.hid o4
  have P4 := Lib.hid p4
  clear o4 p4
  go_wp2_with fail
  refine (impl_FormatNat r1 (toL m) _ (OwnR.here O1.out (by repeat' (first | (with_reducible exact Below.refl _ _) | (with_reducible refine Below.alloc ?_ ?_ _) | (with_reducible refine Below.setCell ?_ ?_ _) | (with_reducible refine below_drewN ?_ _) | (with_reducible refine Below.drew ?_) | (with_reducible refine below_step (by assumption) ?_ ?_) | omega | (simp; done) | (simp; omega)))).sl (HT.out.below (by repeat' (first | (with_reducible exact Below.refl _ _) | (with_reducible refine Below.alloc ?_ ?_ _) | (with_reducible refine Below.setCell ?_ ?_ _) | (with_reducible refine below_drewN ?_ _) | (with_reducible refine Below.drew ?_) | (with_reducible refine below_step (by assumption) ?_ ?_) | omega | (simp; done) | (simp; omega))))).mono ?_
  rw [fmtNat_yes HOM.out]
  rintro e w5 ⟨rfl, b5⟩
  have z5 := b5.size
  have HDS : Hid ((decF m).size ≤ maxLen) := Lib.hid (by
    have h1 := fmtNat_size0 HM.out
    unfold maxLen
    omega)
  go_wp2_with fail
  refine (impl_ParseNat (decF m) _ HDS.out).mono ?_
  rw [parse_dec (Nat.lt_of_lt_of_le HM.out (pw_le (by omega)))]
  rintro e w6 ⟨r6, rfl, o6, b6⟩
  have z6 := b6.size
  have O6 := Lib.hid (OwnR.of o6)
  clear o6
  go_wp2_with fail
  refine (impl_NatGcd r1 r3 (toL m) (toL l) _ (OwnR.here O1.out (by repeat' (first | (with_reducible exact Below.refl _ _) | (with_reducible refine Below.alloc ?_ ?_ _) | (with_reducible refine Below.setCell ?_ ?_ _) | (with_reducible refine below_drewN ?_ _) | (with_reducible refine Below.drew ?_) | (with_reducible refine below_step (by assumption) ?_ ?_) | omega | (simp; done) | (simp; omega)))).sl (OwnR.here O3.out (by repeat' (first | (with_reducible exact Below.refl _ _) | (with_reducible refine Below.alloc ?_ ?_ _) | (with_reducible refine Below.setCell ?_ ?_ _) | (with_reducible refine below_drewN ?_ _) | (with_reducible refine Below.drew ?_) | (with_reducible refine below_step (by assumption) ?_ ?_) | omega | (simp; done) | (simp; omega)))).sl).mono ?_
  rw [natGcdF_toL HOM.out HOL.out]
  rintro e w7 ⟨r7, rfl, o7, b7⟩
  have z7 := b7.size
  have hgl : Nat.gcd m l ≤ l := Nat.le_of_dvd HLP.out (Nat.gcd_dvd_right m l)
  have hgp : 0 < Nat.gcd m l := Nat.gcd_pos_of_pos_right m HLP.out
  have HOG := Lib.hid (ok_lt (Nat.lt_of_le_of_lt hgl HLL.out) (by omega))
  have HGE := Lib.hid (toL_len_pos hgp)
  have HMOD : Hid (l % Nat.gcd m l = 0) := Lib.hid (Nat.mod_eq_zero_of_dvd (Nat.gcd_dvd_right m l))
  obtain ⟨D7, c7, rfl, _, f7, _⟩ := o7.form
  have O7 := Lib.hid (OwnR.of o7)
  have hg7 : (0 : Int) < ((toL (Nat.gcd m l)).length : Int) := by have := HGE.out; omega
  have hg8 : ((toL (Nat.gcd m l)).length : Int) ≤ 9223372036854775807 := by unfold maxLen at f7; omega
  clear o7 hgl hgp f7
  go_wp2_with fail
  refine (impl_NatDiv r3 _ (toL l) (toL (Nat.gcd m l)) _ (OwnR.here O3.out (by repeat' (first | (with_reducible exact Below.refl _ _) | (with_reducible refine Below.alloc ?_ ?_ _) | (with_reducible refine Below.setCell ?_ ?_ _) | (with_reducible refine below_drewN ?_ _) | (with_reducible refine Below.drew ?_) | (with_reducible refine below_step (by assumption) ?_ ?_) | omega | (simp; done) | (simp; omega)))).sl (OwnR.here O7.out (by repeat' (first | (with_reducible exact Below.refl _ _) | (with_reducible refine Below.alloc ?_ ?_ _) | (with_reducible refine Below.setCell ?_ ?_ _) | (with_reducible refine below_drewN ?_ _) | (with_reducible refine Below.drew ?_) | (with_reducible refine below_step (by assumption) ?_ ?_) | omega | (simp; done) | (simp; omega)))).sl).mono ?_
  rw [natDivF_toL HOL.out HOG.out HGE.out, HMOD.out, toL_zero]
  rintro e w8 ⟨r8, s8, lo8, hi8, lp8, hp8, rfl, o8, p8, u8, v8, d8, x8, y8, b8, la8, lb8⟩
  have z8 := b8.size
  obtain ⟨D8, c8, hv8, _, _, _⟩ := p8.1.form
  subst hv8
  clear o8 p8
  go_wp2_with fail
  refine (impl_NatCmp r6 r1 (toL m) (toL m) _ (OwnR.here O6.out (by repeat' (first | (with_reducible exact Below.refl _ _) | (with_reducible refine Below.alloc ?_ ?_ _) | (with_reducible refine Below.setCell ?_ ?_ _) | (with_reducible refine below_drewN ?_ _) | (with_reducible refine Below.drew ?_) | (with_reducible refine below_step (by assumption) ?_ ?_) | omega | (simp; done) | (simp; omega)))).sl (OwnR.here O1.out (by repeat' (first | (with_reducible exact Below.refl _ _) | (with_reducible refine Below.alloc ?_ ?_ _) | (with_reducible refine Below.setCell ?_ ?_ _) | (with_reducible refine below_drewN ?_ _) | (with_reducible refine Below.drew ?_) | (with_reducible refine below_step (by assumption) ?_ ?_) | omega | (simp; done) | (simp; omega)))).sl).mono ?_
  rw [natCmpF_toL HOM.out HOM.out, cmpN_eq]
  rintro e w9 ⟨rfl, b9⟩
  have z9 := b9.size
  have HQO := Lib.hid (ok_lt (Nat.lt_of_le_of_lt (Nat.div_le_self m l) HM.out) (by omega))
  have hql : m / l * l ≤ m := Nat.div_mul_le_self m l
  have HQL := Lib.hid hql
  have HPO := Lib.hid (ok_lt (Nat.lt_of_le_of_lt hql HM.out) (by omega))
  have HRL := Lib.hid (Nat.mod_lt m HLP.out)
  have HRO := Lib.hid (ok_lt (Nat.lt_trans HRL.out HLL.out) (by omega))
  have HDM : Hid (m / l * l + m % l = m) := Lib.hid (Nat.div_add_mod' m l)
  clear hql
  go_wp2_with fail
  refine (impl_NatMul r4 r3 (toL (m / l)) (toL l) _ (OwnR.here O4.out (by repeat' (first | (with_reducible exact Below.refl _ _) | (with_reducible refine Below.alloc ?_ ?_ _) | (with_reducible refine Below.setCell ?_ ?_ _) | (with_reducible refine below_drewN ?_ _) | (with_reducible refine Below.drew ?_) | (with_reducible refine below_step (by assumption) ?_ ?_) | omega | (simp; done) | (simp; omega)))).sl (OwnR.here O3.out (by repeat' (first | (with_reducible exact Below.refl _ _) | (with_reducible refine Below.alloc ?_ ?_ _) | (with_reducible refine Below.setCell ?_ ?_ _) | (with_reducible refine below_drewN ?_ _) | (with_reducible refine Below.drew ?_) | (with_reducible refine below_step (by assumption) ?_ ?_) | omega | (simp; done) | (simp; omega)))).sl).mono ?_
  rw [natMulF_toL HQO.out HOL.out, limN_small (Nat.lt_of_le_of_lt HQL.out (Nat.lt_of_lt_of_le HM.out (pw_le (by omega))))]
  rintro e w10 ⟨r10, rfl, o10, b10⟩
  have z10 := b10.size
  have O10 := Lib.hid (OwnR.of o10)
  clear o10
  go_wp2_with fail
  refine (impl_NatAdd r10 s4 (toL (m / l * l)) (toL (m % l)) _ (OwnR.here O10.out (by repeat' (first | (with_reducible exact Below.refl _ _) | (with_reducible refine Below.alloc ?_ ?_ _) | (with_reducible refine Below.setCell ?_ ?_ _) | (with_reducible refine below_drewN ?_ _) | (with_reducible refine Below.drew ?_) | (with_reducible refine below_step (by assumption) ?_ ?_) | omega | (simp; done) | (simp; omega)))).sl (OwnR.here P4.out (by repeat' (first | (with_reducible exact Below.refl _ _) | (with_reducible refine Below.alloc ?_ ?_ _) | (with_reducible refine Below.setCell ?_ ?_ _) | (with_reducible refine below_drewN ?_ _) | (with_reducible refine Below.drew ?_) | (with_reducible refine below_step (by assumption) ?_ ?_) | omega | (simp; done) | (simp; omega)))).sl).mono ?_
  rw [natAddF_toL HPO.out HRO.out, HDM.out, limN_small (Nat.lt_of_lt_of_le HM.out (pw_le (by omega)))]
  rintro e w11 ⟨r11, rfl, o11, b11⟩
  have z11 := b11.size
  have O11 := Lib.hid (OwnR.of o11)
  clear o11
  go_wp2_with fail
  refine (impl_NatCmp r11 r1 (toL m) (toL m) _ (OwnR.here O11.out (by repeat' (first | (with_reducible exact Below.refl _ _) | (with_reducible refine Below.alloc ?_ ?_ _) | (with_reducible refine Below.setCell ?_ ?_ _) | (with_reducible refine below_drewN ?_ _) | (with_reducible refine Below.drew ?_) | (with_reducible refine below_step (by assumption) ?_ ?_) | omega | (simp; done) | (simp; omega)))).sl (OwnR.here O1.out (by repeat' (first | (with_reducible exact Below.refl _ _) | (with_reducible refine Below.alloc ?_ ?_ _) | (with_reducible refine Below.setCell ?_ ?_ _) | (with_reducible refine below_drewN ?_ _) | (with_reducible refine Below.drew ?_) | (with_reducible refine below_step (by assumption) ?_ ?_) | omega | (simp; done) | (simp; omega)))).sl).mono ?_
  rw [natCmpF_toL HOM.out HOM.out, cmpN_eq]
  rintro e w12 ⟨rfl, b12⟩
  have z12 := b12.size
  go_wp2_with fail
  refine (impl_NatCmp s4 r3 (toL (m % l)) (toL l) _ (OwnR.here P4.out (by repeat' (first | (with_reducible exact Below.refl _ _) | (with_reducible refine Below.alloc ?_ ?_ _) | (with_reducible refine Below.setCell ?_ ?_ _) | (with_reducible refine below_drewN ?_ _) | (with_reducible refine Below.drew ?_) | (with_reducible refine below_step (by assumption) ?_ ?_) | omega | (simp; done) | (simp; omega)))).sl (OwnR.here O3.out (by repeat' (first | (with_reducible exact Below.refl _ _) | (with_reducible refine Below.alloc ?_ ?_ _) | (with_reducible refine Below.setCell ?_ ?_ _) | (with_reducible refine below_drewN ?_ _) | (with_reducible refine Below.drew ?_) | (with_reducible refine below_step (by assumption) ?_ ?_) | omega | (simp; done) | (simp; omega)))).sl).mono ?_
  rw [natCmpF_toL HRO.out HOL.out, cmpN_lt HRL.out]
  rintro e w13 ⟨rfl, b13⟩
  have z13 := b13.size
  go_wp2
  go_ret
  refine ⟨?_, (by repeat' (first | (with_reducible exact Below.refl _ _) | (with_reducible refine Below.alloc ?_ ?_ _) | (with_reducible refine Below.setCell ?_ ?_ _) | (with_reducible refine below_drewN ?_ _) | (with_reducible refine Below.drew ?_) | (with_reducible refine below_step (by assumption) ?_ ?_) | omega | (simp; done) | (simp; omega)))⟩
  show Ending.returned (.bool (decide (0 < (toL (Nat.gcd m l)).length))) = _
  rw [decide_eq_true HGE.out]
theorem fnNats.own : ownKnob Tryd.prog.godebug = none := by kernel_rfl
theorem fnNats.laidOut : laidOutB Tryd.prog = true := by kernel_rfl
set_option linter.unusedVariables false in
set_option maxRecDepth 100000 in
theorem fnNats.lifted (os : Os) (started : os.Started) (H : Type) (enc : TypeId × Value → H) :
    ReturnsInHanded {} Tryd.checked os 10 .any (fun w args => (Rows.fnNatsSpec.pre enc Tryd.prog Tryd.f10 [] false w args ∧ laidMetH Tryd.prog laid3 w) ∧ sizedMet enc Tryd.prog Tryd.f10 (OpenSpec.ofChange Rows.fnNatsSpec) false w args)
      (Rows.fnNatsSpec.post enc Tryd.prog Tryd.f10 false true false false) := by
  refine returnsInHanded_of_change_and (C := Tryd.checked) (X := fun w _ => laidMetH Tryd.prog laid3 w) (fun _ _ _ hh h => h.of_heap hh) fnNats.own started (by kernel_rfl) Tryd.func10
    (ChangeSpec.witness_shaped (enc := enc) (C := Tryd.checked) (os := os) (X := fun w _ => laidMetH Tryd.prog laid3 w) false (World.doorLaid Tryd.prog 4000 os) #[.slice none 0 0] 8 rfl (World.shaped_of_RefB (by kernel_rfl) (by kernel_rfl)) (by kernel_rfl) (by kernel_rfl) (by kernel_rfl) (door_met3 os _)) ?_
  intro W base args ds gs before hval0 hW _ _ hL _
  have hval : ∀ (j : Nat) t v, Tryd.f10.params[j]? = some t → args[j]? = some v → Value.okWide Tryd.prog W .any base t v := hval0
  have hW' := hW
  obtain ⟨p, q, hA0, hV, rfl, hfz, hnd⟩ := hW
  have hA : DataW.TrodAll enc Tryd.prog W 0 (fun _ => true) true Tryd.f10.params.toList args.toList ds p := hA0
  rw [Tryd.params10] at hA hval
  obtain ⟨v0, vs0, d0, ds0, p0, q0, hargs, rfl, rfl, h0, r0⟩ := trodAll_cons hA
  obtain ⟨rfl, rfl, rfl⟩ := trodAll_nil r0
  obtain rfl : args = #[v0] := by cases args; simp_all
  obtain ⟨rfl, rfl⟩ := trodVars_none hV
  have k0 := h0
  have lt0 : ∀ x ∈ p0, x.block < W.heap.size := by obtain ⟨m, hm⟩ := k0; exact DataW.trod_lt m _ _ _ hm
  obtain ⟨x0, s0⟩ := open_bytesL Tryd.underlying52 Tryd.underlying5 (by kernel_rfl) (hval 0 52 v0 rfl rfl) h0
  clear hA0 hval0
  refine (walk_FnNats W (tab_of_laid3 hL) v0 x0 s0).mono fun e W' ⟨he, bel⟩ => ?_
  subst he
  exact ⟨_, rfl, _, _, _, [], _, [], hW', trodAll_mk1 (shut_bool Tryd.underlying4 _), (trodAll_cons_mk (Below.trod fnNats.laidOut (by kernel_rfl) (of_decide_eq_true (by kernel_rfl)) k0 bel lt0) trodAll_mk0), rfl, bel.frame _, fun h => by cases h⟩
theorem fnNats.over : Rows.fnNatsRow.holds Tryd.pinned (OpenSpec.ofChange Rows.fnNatsSpec) :=
  OpenClaim.holds_of_wide 10 Tryd.f10 rfl rfl rfl rfl rfl rfl rfl ⟨rfl, rfl, rfl, rfl, rfl⟩ rfl rfl rfl rfl rfl (by kernel_rfl) Tryd.func10 (by kernel_rfl)
    (of_decide_eq_true (by kernel_rfl)) (by unfold Func.isWrapper; first | (rw [if_pos (by decide +kernel)]; kernel_rfl) | (rw [if_neg (by decide +kernel)]; exact ⟨rfl, rfl⟩))
    (fun os started H enc _ => fnNats.lifted os started H enc)
/-- THE STATEMENT: the tied card. -/
theorem fnNats_holds : Rows.FnNatsCardSaid :=
  Claim7.holds_tied_plain_at .later [] [.data, .data, .data] true Rows.fnNatsCard.stood.harness true
    fnNats.over (fun _ h => by cases h) (by kernel_rfl) (fun _ h => by cases h) fnNats_row_tie rfl ⟨rfl, rfl⟩ (by kernel_rfl) rfl
    (fun f fn hf hfn => by
      obtain rfl : f = 10 := Option.some.inj ((show Tryd.prog.funcNamed Rows.fnNatsRow.func = some 10 by kernel_rfl).symm.trans hf) |>.symm
      obtain rfl : fn = Tryd.f10 := (Option.some.inj (Tryd.func10.symm.trans hfn)).symm
      exact ⟨by kernel_rfl, fun j t ht => by
        rw [Tryd.params10] at ht
        have hm : t ∈ ([52] : List TypeId) := by simpa using Array.mem_of_getElem? ht
        have hall : (([52] : List TypeId).all fun u => !Tryd.prog.wantsStandIn u) = true := by kernel_rfl
        exact (show Tryd.prog.wantsStandIn t = false by simpa using List.all_eq_true.1 hall t hm)⟩)
    (by kernel_rfl)
#print axioms fnNats_holds
end Go.Proofs.YticekjagmcphbaaDoor
