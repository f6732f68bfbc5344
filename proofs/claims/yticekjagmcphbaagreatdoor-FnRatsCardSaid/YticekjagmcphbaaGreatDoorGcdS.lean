/-
  Contracts: greatest common divisors of the specification. Written by an AI agent.
-/
import Derived.Test.YticekjagmcphbaaGreatDoorGcd
import Derived.Test.YticekjagmcphbaaGreatDoorDivT
import Derived.Test.YticekjagmcphbaaGreatDoorNatOf
namespace Go.Proofs.YticekjagmcphbaaGreatDoor
open Go.RowKit

set_option maxHeartbeats 2000000 in
theorem spec_plain (x y : Int) (p q : Nat) (w : World) (hx : x = (p : Int)) (hy : y = (q : Int)) (hp : p ≤ maxInt) (hq : q ≤ maxInt) :
    Calls Tryz.prog 88 #[.int .i64 x, .int .i64 y] w (RetOwn 3 (toL (Nat.gcd p q)) w) := by
  have HX := Lib.hid hx
  have HY := Lib.hid hy
  have HP := Lib.hid hp
  have HQ := Lib.hid hq
  clear hx hy hp hq
  go_enter Tryz.func88, Tryz.ntmps88
  go_wp2
  go_loop [0, 1] (fun i j => ∃ (x y : Int), i = .int .i64 x ∧ j = .int .i64 y ∧ (∃ (a b : Nat), x = (a : Int) ∧ y = (b : Int) ∧ Nat.gcd a b = Nat.gcd p q ∧ a ≤ maxInt ∧ b ≤ maxInt)) (fun _ j => (intOf j).toNat)
  case atStart => exact ⟨x, y, rfl, rfl, ⟨p, q, HX.out, HY.out, rfl, HP.out, HQ.out⟩⟩
  case round =>
    clear HX HY
    obtain ⟨x, y, rfl, rfl, ⟨a, b, ha, hb, hab, ha2, hb2⟩⟩ := hrel
    have HPQ := Lib.hid hab
    have x0 : 0 ≤ x := by omega
    have x1 : x ≤ 9223372036854775807 := by unfold maxInt at ha2; omega
    have y0 : 0 ≤ y := by omega
    have y1 : y ≤ 9223372036854775807 := by unfold maxInt at hb2; omega
    have HP1 := Lib.hid ha
    have HQ1 := Lib.hid hb
    have HP2 := Lib.hid ha2
    have HQ2 := Lib.hid hb2
    clear ha hb hab ha2 hb2
    by_cases hz : 0 < y
    · have hyz : ¬ y = 0 := by omega
      have hnz : (y == 0) = false := by simp; omega
      have ht1 : x.tmod y = x % y := Int.tmod_eq_emod_of_nonneg x0
      have r0 : 0 ≤ x % y := Int.emod_nonneg _ hyz
      have r1 : x % y < y := Int.emod_lt_of_pos x hz
      have hw4 : IntKind.i64.wrap (x % y) = x % y := IntWalk.i64_in _ (by omega)
      have he : x % y = ((a % b : Nat) : Int) := by rw [HP1.out, HQ1.out]; exact (Int.natCast_emod a b).symm
      have HE := Lib.hid he
      clear he
      go_wp2
      go_round
      case rel => exact ⟨y, x % y, rfl, by go_num, ⟨b, a % b, HQ1.out, HE.out, gcd_step HPQ.out, HQ2.out, Nat.le_trans (Nat.mod_le a b) HP2.out⟩⟩
      case measure => simp [intOf]; omega
    · have hy0 : y = 0 := by omega
      have HS : Hid (x.toNat = Nat.gcd p q) := Lib.hid (by
        have h5 : b = 0 := by have := HQ1.out; omega
        have h6 := HPQ.out
        rw [h5] at h6
        rw [← gcd_stop h6, HP1.out, Int.toNat_natCast])
      clear hy0
      go_wp2_with fail
      refine (spec_NatOf x _ (by omega) (by omega)).mono ?_
      rintro e w7 ⟨r7, rfl, o7, b7⟩
      rw [HS.out] at o7
      have O7 := Lib.hid o7
      have B7 := Lib.hid b7
      clear o7 b7
      go_wp2
      go_ret
      exact ⟨_, rfl, O7.out, B7.out⟩

set_option maxHeartbeats 4000000 in
theorem spec_natGcd (u v : Value) (m n : Nat) (w : World) (hu : Sl w u (toL m)) (hv : Sl w v (toL n)) (hm : m < pw 150) (hn : n < pw 150) :
    Calls Tryz.prog 77 #[u, v] w (RetOwn 3 (toL (Nat.gcd m n)) w) := by
  have HU := Lib.hid (hu.alloc (.cells #[] 3))
  have HV := Lib.hid hv
  have HM := Lib.hid hm
  have HN := Lib.hid hn
  have hlm : (toL m).length ≤ 150 := toL_len_lt hm
  have hln : (toL n).length ≤ 150 := toL_len_lt hn
  clear hu hv hm hn
  go_enter Tryz.func77, Tryz.ntmps77
  go_wp2_with (first
    | (at_builtin; refine wpList_appS _ rfl _ _ rfl Tryz.intP (own_empty w (Nat.le_refl _)) HU.out rfl rfl (by simp; omega) (by simp) ?_; intro v1 w1 o1 b1 g1; clear g1; rw [List.nil_append] at o1; have O1 := Lib.hid o1; have B1 := Lib.hid (show Below w.heap.size w w1 from ((Below.refl _ _).alloc (Nat.le_refl _) _).trans b1); clear o1 b1)
    | (at_builtin; refine wpList_appS _ rfl _ _ rfl Tryz.intP (own_empty w1 (Nat.le_refl _)) ((HV.out.below B1.out).alloc _) rfl rfl (by simp; omega) (by simp) ?_; intro v2 w2 o2 b2 g2; clear g2; rw [List.nil_append] at o2))
  have hb12 : Below w1.heap.size w1 w2 := ((Below.refl _ _).alloc (Nat.le_refl _) _).trans b2
  go_loopg [5, 6] n (fun g u v wr => ∃ (a b : Nat), g = b ∧ Nat.gcd a b = Nat.gcd m n ∧ Own wr w.heap.size 3 u (toL a) ∧ Own wr w.heap.size 3 v (toL b) ∧ a < pw 150 ∧ b < pw 150 ∧ Below w.heap.size w wr)
  case atStart => exact ⟨m, n, rfl, rfl, O1.out.below hb12, o2.rebase B1.out.size, HM.out, HN.out, B1.out.trans (hb12.mono B1.out.size)⟩
  case round =>
    clear hb12 b2 o2
    obtain ⟨a, b, hg, hgcd, hsa, hsb, ha, hb, hbl⟩ := hrel
    subst hg
    have HG := Lib.hid hgcd
    have H1 := Lib.hid ha
    have H2 := Lib.hid hb
    have HBL := Lib.hid hbl
    clear hgcd ha hb hbl
    obtain ⟨D, cd, hv1, e1, e2, e3⟩ := hsa.form
    subst hv1
    obtain ⟨D', cd', hv2, e1', e2', e3'⟩ := hsb.form
    subst hv2
    have HA := Lib.hid hsa
    have HB := Lib.hid hsb
    have hla : (toL a).length ≤ 150 := toL_len_lt H1.out
    have hlb : (toL gk).length ≤ 150 := toL_len_lt H2.out
    clear hsa hsb e1 e2 e3 e1' e2' e3'
    rcases Nat.eq_zero_or_pos gk with h0 | h0
    · subst h0
      have hz0 : (toL 0).length = 0 := by rw [toL_zero]; rfl
      have HS := Lib.hid (gcd_stop HG.out)
      generalize hxl : (toL a).length = xl at *
      generalize hyl : (toL 0).length = yl at *
      subst hz0
      clear hxl hyl
      go_wp2
      go_ret
      exact ⟨_, rfl, by rw [← HS.out]; exact HA.out, HBL.out⟩
    · have hp := toL_len_pos h0
      have HXA := Lib.hid (@le_max_of_len a)
      have HXB := Lib.hid (@le_max_of_len gk)
      generalize hxl : (toL a).length = xl at *
      generalize hyl : (toL gk).length = yl at *
      have H0 := Lib.hid h0
      clear hxl hyl h0
      rcases Nat.lt_or_ge 2 xl with h | h
      · go_wp2_with fail
        refine (spec_natDiv _ _ a gk _ HA.out.sl HB.out.sl H0.out (Nat.lt_of_lt_of_le H1.out (pw_le (by omega))) H2.out).mono ?_
        rintro e w1 ⟨r1, s1, lo1, hi1, lo2, hi2, rfl, o1, o2, t1, t2, t3, t4, t5, b1, t6, t7⟩
        have O2 := Lib.hid (o2.1.rebase (Nat.le_trans HBL.out.size t2))
        have B1 := Lib.hid b1
        clear o1 o2 t1 t2 t3 t4 t5 b1 t6 t7
        go_wp2
        go_roundg (a % gk)
        case measure => exact Nat.mod_lt _ H0.out
        case rel => exact ⟨gk, a % gk, rfl, gcd_step HG.out, HB.out.below B1.out, O2.out, H2.out, Nat.lt_trans (Nat.mod_lt _ H0.out) H2.out, HBL.out.trans (B1.out.mono HBL.out.size)⟩
      · rcases Nat.lt_or_ge 2 yl with h' | h'
        · go_wp2_with fail
          refine (spec_natDiv _ _ a gk _ HA.out.sl HB.out.sl H0.out (Nat.lt_of_lt_of_le H1.out (pw_le (by omega))) H2.out).mono ?_
          rintro e w1 ⟨r1, s1, lo1, hi1, lo2, hi2, rfl, o1, o2, t1, t2, t3, t4, t5, b1, t6, t7⟩
          have O2 := Lib.hid (o2.1.rebase (Nat.le_trans HBL.out.size t2))
          have B1 := Lib.hid b1
          clear o1 o2 t1 t2 t3 t4 t5 b1 t6 t7
          go_wp2
          go_roundg (a % gk)
          case measure => exact Nat.mod_lt _ H0.out
          case rel => exact ⟨gk, a % gk, rfl, gcd_step HG.out, HB.out.below B1.out, O2.out, H2.out, Nat.lt_trans (Nat.mod_lt _ H0.out) H2.out, HBL.out.trans (B1.out.mono HBL.out.size)⟩
        · have hx := HXA.out h
          have hy := HXB.out h'
          have hsx := spec_NatToInt _ (toL a) wr HA.out.sl
          rw [natToIntF_good (okB_of_toL (Nat.lt_of_le_of_lt hx (by unfold maxInt; exact Nat.lt_of_lt_of_le (show 9223372036854775807 < pw 3 by decide) (pw_le (by omega))))) hx] at hsx
          have hsy : ∀ w2 : World, Sl w2 (.slice D' yl cd') (toL gk) → Calls Tryz.prog 87 #[.slice D' yl cd'] w2 fun e w' => e = .returned (.tuple #[.int .i64 (gk : Int), .bool true]) ∧ Below w2.heap.size w2 w' := by
            intro w2 h2
            have h3 := spec_NatToInt _ (toL gk) w2 h2
            rwa [natToIntF_good (okB_of_toL (Nat.lt_of_le_of_lt hy (by unfold maxInt; exact Nat.lt_of_lt_of_le (show 9223372036854775807 < pw 3 by decide) (pw_le (by omega))))) hy] at h3
          obtain ⟨x, hxm⟩ : ∃ x : Int, x = (a : Int) := ⟨_, rfl⟩
          obtain ⟨y, hyn⟩ : ∃ y : Int, y = (gk : Int) := ⟨_, rfl⟩
          rw [← hxm] at hsx
          rw [← hyn] at hsy
          have HX := Lib.hid hsx
          have HY := Lib.hid hsy
          have HXM := Lib.hid hxm
          have HYN := Lib.hid hyn
          have HX2 := Lib.hid hx
          have HY2 := Lib.hid hy
          clear hsx hsy hx hy hxm hyn
          go_wp2_with fail
          refine HX.out.mono ?_
          rintro e w3 ⟨rfl, b3⟩
          have B3 := Lib.hid b3
          clear b3
          go_wp2_with fail
          refine (HY.out _ (HB.out.sl.below B3.out)).mono ?_
          rintro e w4 ⟨rfl, b4⟩
          have B4 := Lib.hid (B3.out.trans (b4.mono B3.out.size))
          clear b4
          go_wp2_with fail
          refine (spec_plain x y a gk _ HXM.out HYN.out HX2.out HY2.out).mono ?_
          rintro e w5 ⟨r5, rfl, o5, b5⟩
          rw [HG.out] at o5
          have O5 := Lib.hid (o5.rebase (Nat.le_trans HBL.out.size B4.out.size))
          have B5 := Lib.hid ((HBL.out.trans (B4.out.mono HBL.out.size)).trans (b5.mono (Nat.le_trans HBL.out.size B4.out.size)))
          clear o5 b5
          go_wp2
          go_ret
          exact ⟨_, rfl, O5.out, B5.out⟩

def natGcdF (xs ys : List Int) : List Int := if okB xs = true ∧ okB ys = true then toL (Nat.gcd (val xs).toNat (val ys).toNat) else []
theorem natGcdF_toL {m n : Nat} (hm : okB (toL m) = true) (hn : okB (toL n) = true) : natGcdF (toL m) (toL n) = toL (Nat.gcd m n) := by
  unfold natGcdF
  rw [if_pos ⟨hm, hn⟩, val_toL, val_toL, Int.toNat_natCast, Int.toNat_natCast]
theorem gcd_lt {m n k : Nat} (hm : m < k) (hn : n < k) : Nat.gcd m n < k := by
  rcases Nat.eq_zero_or_pos m with h | h
  · rw [h, Nat.gcd_zero_left]
    exact hn
  · exact Nat.lt_of_le_of_lt (Nat.gcd_le_left n h) hm
theorem natGcdF_len (xs ys : List Int) : (natGcdF xs ys).length ≤ 60 := by
  unfold natGcdF
  split
  · rename_i h
    obtain ⟨m, rfl, hm⟩ := okB_toL h.1
    obtain ⟨n, rfl, hn⟩ := okB_toL h.2
    rw [val_toL, val_toL, Int.toNat_natCast, Int.toNat_natCast]
    exact toL_len_lt (gcd_lt hm hn)
  · simp

end Go.Proofs.YticekjagmcphbaaGreatDoor
