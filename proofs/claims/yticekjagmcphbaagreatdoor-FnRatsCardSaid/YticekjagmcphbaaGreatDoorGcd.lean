/-
  Contracts: greatest common divisors of the impl. Written by an AI agent.
-/
import Derived.Test.YticekjagmcphbaaGreatDoorDivF
import Derived.BigQuiet
namespace Go.Proofs.YticekjagmcphbaaGreatDoor
open Go.RowKit

theorem le_max_of_len {m : Nat} (hx : (toL m).length ≤ 2) : m ≤ maxInt := by
  have h := toL_len_le.1 hx
  have h8 : pw 2 = 1000000000000000000 := rfl
  unfold maxInt
  omega
theorem toL_len_pos {n : Nat} (h : 0 < n) : 0 < (toL n).length := by
  rw [toL_pos h]
  simp
theorem gcd_step {m n a b : Nat} (h : Nat.gcd a b = Nat.gcd m n) : Nat.gcd b (a % b) = Nat.gcd m n := by
  rw [← h, Nat.gcd_comm a b, Nat.gcd_rec b a, Nat.gcd_comm]
theorem gcd_stop {m n a : Nat} (h : Nat.gcd a 0 = Nat.gcd m n) : a = Nat.gcd m n := by
  rw [← h, Nat.gcd_zero_right]

set_option maxHeartbeats 4000000 in
theorem impl_natGcd (u v : Value) (m n : Nat) (w : World) (hu : Sl w u (toL m)) (hv : Sl w v (toL n)) (hm : m < pw 150) (hn : n < pw 150) :
    Calls Tryz.prog 39 #[u, v] w (RetOwn 3 (toL (Nat.gcd m n)) w) := by
  have HU := Lib.hid hu
  have HV := Lib.hid hv
  have HM := Lib.hid hm
  have HN := Lib.hid hn
  clear hu hv hm hn
  go_enter Tryz.func39, Tryz.ntmps39
  go_wp2
  go_loopg [0, 1] n (fun g u v wr => ∃ (a b : Nat), g = b ∧ Nat.gcd a b = Nat.gcd m n ∧ Sl wr u (toL a) ∧ Sl wr v (toL b) ∧ a < pw 150 ∧ b < pw 150 ∧ Below w.heap.size w wr)
  case atStart => exact ⟨m, n, rfl, rfl, HU.out, HV.out, HM.out, HN.out, Below.refl _ _⟩
  case round =>
    obtain ⟨a, b, hg, hgcd, hsa, hsb, ha, hb, hbl⟩ := hrel
    subst hg
    have HA := Lib.hid hsa
    have HB := Lib.hid hsb
    have HG := Lib.hid hgcd
    have H1 := Lib.hid ha
    have H2 := Lib.hid hb
    have HBL := Lib.hid hbl
    clear hgcd ha hb hbl
    obtain ⟨A, c, rfl, x1, x2, x3⟩ := hsa
    obtain ⟨A', c', rfl, y1, y2, y3⟩ := hsb
    have hla : (toL a).length ≤ 150 := toL_len_lt H1.out
    have hlb : (toL gk).length ≤ 150 := toL_len_lt H2.out
    clear x1 x2 x3 y1 y2 y3
    rcases Nat.eq_zero_or_pos gk with h0 | h0
    · subst h0
      rw [show (toL 0).length = 0 by rw [toL_zero]; rfl] at *
      have HS := Lib.hid (gcd_stop HG.out)
      generalize hxl : (toL a).length = xl at *
      have HXL := Lib.hid hxl
      clear hxl
      go_wp2_with fail
      refine (impl_copyInts _ (toL a) _ HA.out (by rw [HXL.out]; omega)).mono ?_
      rintro e w1 ⟨r1, rfl, o1, b1⟩
      have O1 := Lib.hid (o1.rebase HBL.out.size)
      have B1 := Lib.hid (HBL.out.trans (b1.mono HBL.out.size))
      clear o1 b1
      go_wp2
      go_ret
      exact ⟨_, rfl, by rw [← HS.out]; exact O1.out, B1.out⟩
    · have hp := toL_len_pos h0
      have HXA := Lib.hid (@le_max_of_len a)
      have HXB := Lib.hid (@le_max_of_len gk)
      generalize hxl : (toL a).length = xl at *
      generalize hyl : (toL gk).length = yl at *
      have H0 := Lib.hid h0
      clear hxl hyl h0
      rcases Nat.lt_or_ge 2 xl with h | h
      · go_wp2_with fail
        refine (impl_natDiv _ _ a gk _ HA.out HB.out H0.out (Nat.lt_of_lt_of_le H1.out (pw_le (by omega))) H2.out).mono ?_
        rintro e w1 ⟨r1, s1, lo1, hi1, lo2, hi2, rfl, o1, o2, t1, t2, t3, t4, t5, b1, t6, t7⟩
        have O2 := Lib.hid o2.sl
        have B1 := Lib.hid b1
        clear o1 o2 t1 t2 t3 t4 t5 b1 t6 t7
        go_wp2
        go_roundg (a % gk)
        case measure => exact Nat.mod_lt _ H0.out
        case rel => exact ⟨gk, a % gk, rfl, gcd_step HG.out, HB.out.below B1.out, O2.out, H2.out, Nat.lt_trans (Nat.mod_lt _ H0.out) H2.out, HBL.out.trans (B1.out.mono HBL.out.size)⟩
      · rcases Nat.lt_or_ge 2 yl with h' | h'
        · go_wp2_with fail
          refine (impl_natDiv _ _ a gk _ HA.out HB.out H0.out (Nat.lt_of_lt_of_le H1.out (pw_le (by omega))) H2.out).mono ?_
          rintro e w1 ⟨r1, s1, lo1, hi1, lo2, hi2, rfl, o1, o2, t1, t2, t3, t4, t5, b1, t6, t7⟩
          have O2 := Lib.hid o2.sl
          have B1 := Lib.hid b1
          clear o1 o2 t1 t2 t3 t4 t5 b1 t6 t7
          go_wp2
          go_roundg (a % gk)
          case measure => exact Nat.mod_lt _ H0.out
          case rel => exact ⟨gk, a % gk, rfl, gcd_step HG.out, HB.out.below B1.out, O2.out, H2.out, Nat.lt_trans (Nat.mod_lt _ H0.out) H2.out, HBL.out.trans (B1.out.mono HBL.out.size)⟩
        · have hx := HXA.out h
          have hy := HXB.out h'
          have hsx := impl_natSmall _ a wr HA.out hx
          have hsy := impl_natSmall _ gk wr HB.out hy
          obtain ⟨x, hxm⟩ : ∃ x : Int, x = (a : Int) := ⟨_, rfl⟩
          obtain ⟨y, hyn⟩ : ∃ y : Int, y = (gk : Int) := ⟨_, rfl⟩
          rw [← hxm] at hsx
          rw [← hyn] at hsy
          have hst : ∃ (p q : Nat), x = (p : Int) ∧ y = (q : Int) ∧ Nat.gcd p q = Nat.gcd m n ∧ p ≤ maxInt ∧ q ≤ maxInt := ⟨a, gk, hxm, hyn, HG.out, hx, hy⟩
          have HST := Lib.hid hst
          have HX := Lib.hid hsx
          have HY := Lib.hid hsy
          clear hsx hsy hx hy hxm hyn hst
          go_wp2_with fail
          refine HX.out.mono ?_
          rintro e w1 ⟨rfl, rfl⟩
          go_wp2_with fail
          refine HY.out.mono ?_
          rintro e w1 ⟨rfl, rfl⟩
          go_wp2
          obtain ⟨wo, rfl⟩ : ∃ wo : World, wo = wr := ⟨_, rfl⟩
          go_loopw [5, 6] (fun i j wr => ∃ (x y : Int), i = .int .i64 x ∧ j = .int .i64 y ∧ (∃ (p q : Nat), x = (p : Int) ∧ y = (q : Int) ∧ Nat.gcd p q = Nat.gcd m n ∧ p ≤ maxInt ∧ q ≤ maxInt) ∧ Below w.heap.size w wr) (fun _ j _ => (intOf j).toNat)
          case atStart => exact ⟨x, y, rfl, rfl, HST.out, HBL.out⟩
          case round =>
            obtain ⟨x, y, rfl, rfl, ⟨p, q, hp1, hq1, hpq, hp2, hq2⟩, hb2⟩ := hrel
            have HB2 := Lib.hid hb2
            have HPQ := Lib.hid hpq
            clear hb2 hpq HST HX HY
            have x0 : 0 ≤ x := by omega
            have x1 : x ≤ 9223372036854775807 := by unfold maxInt at hp2; omega
            have y0 : 0 ≤ y := by omega
            have y1 : y ≤ 9223372036854775807 := by unfold maxInt at hq2; omega
            have HP1 := Lib.hid hp1
            have HQ1 := Lib.hid hq1
            have HP2 := Lib.hid hp2
            have HQ2 := Lib.hid hq2
            clear hp1 hq1 hp2 hq2
            by_cases hz : 0 < y
            · have hyz : ¬ y = 0 := by omega
              have hnz : (y == 0) = false := by simp; omega
              have ht1 : x.tmod y = x % y := Int.tmod_eq_emod_of_nonneg x0
              have r0 : 0 ≤ x % y := Int.emod_nonneg _ hyz
              have r1 : x % y < y := Int.emod_lt_of_pos x hz
              have hw4 : IntKind.i64.wrap (x % y) = x % y := IntWalk.i64_in _ (by omega)
              have he : x % y = ((p % q : Nat) : Int) := by rw [HP1.out, HQ1.out]; exact (Int.natCast_emod p q).symm
              have HE := Lib.hid he
              clear he
              go_wp2
              go_quiet (fail)
              clear hw4 ht1
              go_wp2
              go_roundw
              case rel => exact ⟨y, x % y, rfl, by go_num, ⟨q, p % q, HQ1.out, HE.out, gcd_step HPQ.out, HQ2.out, Nat.le_trans (Nat.mod_le p q) HP2.out⟩, below_drewN HB2.out nq⟩
              case measure => simp [intOf]; omega
            · have hy0 : y = 0 := by omega
              have HS : Hid (x.toNat = Nat.gcd m n) := Lib.hid (by
                have h5 : q = 0 := by have := HQ1.out; omega
                have h6 := HPQ.out
                rw [h5] at h6
                rw [← gcd_stop h6, HP1.out, Int.toNat_natCast])
              clear hy0
              have hw5 : IntKind.u64.wrap x = x := IntWalk.u64_in _ (by omega)
              go_wp2_with fail
              refine (impl_natOfUintI x _ x0 (by omega)).mono ?_
              rintro e w7 ⟨r7, rfl, o7, b7⟩
              rw [HS.out] at o7
              have O7 := Lib.hid (o7.rebase HB2.out.size)
              have B7 := Lib.hid (HB2.out.trans (b7.mono HB2.out.size))
              clear o7 b7
              go_wp2
              go_ret
              exact ⟨_, rfl, O7.out, B7.out⟩
end Go.Proofs.YticekjagmcphbaaGreatDoor
