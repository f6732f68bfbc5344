/-
  Contracts: the digit and the long division of the specification. Written by an AI agent.
-/
import Derived.Test.YticekjagmcphbaaGreatDoorDivS
namespace Go.Proofs.YticekjagmcphbaaGreatDoor
open Go.RowKit

theorem cmp_pos {m n : Nat} (h : ¬ cmpN m n ≤ 0) : n < m := by
  rcases Nat.lt_trichotomy m n with h1 | h1 | h1
  · rw [cmpN_lt h1] at h
    omega
  · rw [h1, cmpN_eq] at h
    omega
  · exact h1
theorem cmp_nonpos {m n : Nat} (h : cmpN m n ≤ 0) : m ≤ n := by
  rcases Nat.lt_or_ge n m with h1 | h1
  · rw [cmpN_gt h1] at h
    omega
  · exact h1

set_option maxHeartbeats 4000000 in
theorem spec_natDigit (u v : Value) (r n : Nat) (w : World) (hu : Sl w u (toL r)) (hv : Sl w v (toL n)) (h0 : 0 < n) (hr : r < n * 1000000000) (hn : n < pw 150) :
    Calls Tryz.prog 91 #[u, v] w fun e w' => e = .returned (.int .i64 ((r / n : Nat) : Int)) ∧ Below w.heap.size w w' := by
  have HU := Lib.hid hu
  have HV := Lib.hid hv
  have H0 := Lib.hid h0
  have hq : r / n < 1000000000 := by
    rw [Nat.div_lt_iff_lt_mul h0, Nat.mul_comm]
    exact hr
  have HQ := Lib.hid hq
  have HN := Lib.hid (show n < pw 200 from Nat.lt_of_lt_of_le hn (pw_le (by omega)))
  clear hu hv h0 hr hn hq
  go_enter Tryz.func91, Tryz.ntmps91
  go_wp2
  go_loopw [5, 6] (fun a b wr => ∃ (x y : Int), a = .int .i64 x ∧ b = .int .i64 y ∧ 0 ≤ x ∧ y < 1000000000 ∧ x ≤ ((r / n : Nat) : Int) ∧ ((r / n : Nat) : Int) ≤ y ∧ Below w.heap.size w wr) (fun a b _ => (intOf b - intOf a).toNat)
  case atStart => exact ⟨0, 999999999, rfl, rfl, by omega, by omega, Int.natCast_nonneg _, by have := HQ.out; omega, Below.refl _ _⟩
  case round =>
    obtain ⟨x, y, rfl, rfl, x0, y1, hxq, hqy, hb⟩ := hrel
    have HB := Lib.hid hb
    have H1 := Lib.hid hxq
    have H2 := Lib.hid hqy
    clear hb hxq hqy
    by_cases hlt : x < y
    · obtain ⟨d, hd⟩ : ∃ d : Int, d = (x + y + 1) / 2 := ⟨_, rfl⟩
      have hsum : 0 ≤ x + y + 1 := by omega
      have hdd : (x + y + 1) / 2 = d := hd.symm
      have htd : (x + y + 1).tdiv 2 = d := by rw [Int.tdiv_eq_ediv_of_nonneg hsum, hdd]
      have d0 : 1 ≤ d := by omega
      have d1 : d < 1000000000 := by omega
      have dx : x < d := by omega
      have dy : d ≤ y := by omega
      have HDD := Lib.hid hd
      obtain ⟨k, hk⟩ := Int.eq_ofNat_of_zero_le (show 0 ≤ d by omega)
      have HK := Lib.hid hk
      have hbt : k < 1000000000 := by omega
      have HKB := Lib.hid hbt
      clear hd hk hbt
      go_wp2_with fail
      refine (spec_NatOf d _ (by omega) (by omega)).mono ?_
      rintro e w1 ⟨r1, rfl, o1, b1⟩
      rw [HK.out, Int.toNat_natCast] at o1
      have HO1 := Lib.hid o1
      have HB1 := Lib.hid b1
      clear o1 b1
      go_wp2_with fail
      refine (spec_natMul _ _ n k _ ((HV.out.below HB.out).below HB1.out) HO1.out.sl HN.out (Nat.lt_of_lt_of_le HKB.out (show pw 1 ≤ pw 200 from pw_le (by omega)))).mono ?_
      rintro e w2 ⟨r2, rfl, o2, b2⟩
      have HO2 := Lib.hid o2
      have HB2 := Lib.hid (show Below w.heap.size w w2 from (HB.out.trans (HB1.out.mono HB.out.size)).trans (b2.mono (Nat.le_trans HB.out.size HB1.out.size)))
      clear o2 b2
      have hkk : ∀ {c : Int}, c = cmpN (n * k) r → (c ≤ 0 → k ≤ r / n) ∧ (¬ c ≤ 0 → r / n < k) := by
        intro c hc
        rw [hc]
        refine ⟨fun h => ?_, fun h => ?_⟩
        · rw [Nat.le_div_iff_mul_le H0.out, Nat.mul_comm]
          exact cmp_nonpos h
        · rw [Nat.div_lt_iff_lt_mul H0.out, Nat.mul_comm]
          exact cmp_pos h
      obtain ⟨c, hc⟩ : ∃ c, c = cmpN (n * k) r := ⟨_, rfl⟩
      have HKK := Lib.hid (hkk hc)
      have HC := Lib.hid hc
      clear hkk hc
      by_cases hc0 : c ≤ 0
      · have hle := HKK.out.1 hc0
        have HLE := Lib.hid hle
        clear hle
        go_wp2_with fail
        refine (spec_natCmp _ _ (n * k) r _ HO2.out.sl (HU.out.below HB2.out)).mono ?_
        rintro e w3 ⟨rfl, k3, rfl⟩
        rw [← HC.out]
        go_wp2
        go_roundw
        case rel => exact ⟨d, y, by go_num, rfl, by omega, y1, by have h8 := HLE.out; have h9 := HK.out; omega, H2.out, below_drewN HB2.out k3⟩
        case measure => simp [intOf]; omega
      · have hle := HKK.out.2 hc0
        have HLE := Lib.hid hle
        clear hle
        go_wp2_with fail
        refine (spec_natCmp _ _ (n * k) r _ HO2.out.sl (HU.out.below HB2.out)).mono ?_
        rintro e w3 ⟨rfl, k3, rfl⟩
        rw [← HC.out]
        go_wp2
        go_roundw
        case rel => exact ⟨x, d - 1, rfl, by go_num, x0, by omega, H1.out, by have h8 := HLE.out; have h9 := HK.out; omega, below_drewN HB2.out k3⟩
        case measure => simp [intOf]; omega
    · have HE := Lib.hid (show x = ((r / n : Nat) : Int) by have h1 := H1.out; have h2 := H2.out; omega)
      go_wp2
      go_ret
      exact ⟨ret_int HE.out, HB.out⟩

set_option maxHeartbeats 4000000 in
theorem spec_natDivOne (u v : Value) (m n : Nat) (w : World) (hu : Sl w u (toL m)) (hv : Sl w v (toL n)) (h0 : 0 < n) (hm : m < pw 200) (hn : (toL n).length = 1) :
    Calls Tryz.prog 78 #[u, v] w (RetTwo 3 (toL (m / n)) (toL (m % n)) w) := by
  have hn1 : n < 1000000000 := by
    have := toL_len_le.1 (Nat.le_of_eq hn)
    have h8 : pw 1 = 1000000000 := rfl
    omega
  have HU := Lib.hid hu
  have HM := Lib.hid hm
  have H0 := Lib.hid h0
  have H1 := Lib.hid hn1
  obtain ⟨A, c, rfl, g1, g2, g3⟩ := hv
  obtain ⟨b, off, rfl, hc⟩ := g3 (by omega)
  obtain ⟨d, hd⟩ : ∃ d : Int, d = (n : Int) := ⟨_, rfl⟩
  have hcell := hc 0 d (by rw [toL_digit h0 hn1, hd]; rfl)
  simp only [Nat.add_zero] at hcell
  have HD := Lib.hid hd
  rw [hn] at g1 ⊢
  obtain ⟨q, hq⟩ : ∃ q : Int, q = ((m % n : Nat) : Int) := ⟨_, rfl⟩
  have hsm := spec_natSmall u m n d w hu hm hd h0 hn1
  rw [← hq] at hsm
  have HS := Lib.hid hsm
  have q0 : 0 ≤ q := by omega
  have q1 : q < 1000000000 := by have := Nat.mod_lt m h0; omega
  have hqn : q.toNat = m % n := by omega
  have HQN := Lib.hid hqn
  clear hu hm h0 hn1 hc hd hn g1 g2 g3 hq hsm hqn
  go_enter Tryz.func78, Tryz.ntmps78
  go_wp2_with fail
  refine HS.out.mono ?_
  rintro e w1 ⟨r1, rfl, o1, b1, hs1⟩
  have HO1 := Lib.hid o1
  have HB1 := Lib.hid b1
  clear o1 b1
  go_wp2_with fail
  refine (spec_NatOf q _ (by omega) (by omega)).mono ?_
  rintro e w2 ⟨r2, rfl, o2, b2⟩
  rw [HQN.out] at o2
  have HO2 := Lib.hid o2
  have HB2 := Lib.hid b2
  clear o2 b2
  go_wp2
  go_ret2
  exact ⟨_, _, w.heap.size, w.heap.size + 1, w1.heap.size, w2.heap.size, rfl, HO1.out.below HB2.out hs1, OwnR.of HO2.out, Nat.le_refl _, Nat.le_of_lt hs1, .inl hs1, Nat.le_trans hs1 HB2.out.size, Nat.le_refl _, HB1.out.trans (HB2.out.mono (Nat.le_of_lt hs1)), Nat.le_succ _, HB2.out.size⟩

set_option maxHeartbeats 4000000 in
theorem spec_natDivLong (u v : Value) (m n : Nat) (w : World) (hu : Sl w u (toL m)) (hv : Sl w v (toL n)) (h0 : 0 < n) (hm : m < pw 200) (hn : n < pw 150) (hlong : (((toL n).length : Int) == 1) = false) :
    Calls Tryz.prog 78 #[u, v] w (RetTwo 3 (toL (m / n)) (toL (m % n)) w) := by
  obtain ⟨A, c, rfl, h1, h2, h3⟩ := hu
  have hvv := hv
  obtain ⟨A', c', rfl, h1', h2', h3'⟩ := hv
  have hl1 : (toL m).length ≤ 200 := toL_len_lt hm
  have hl2 : (toL n).length ≤ 150 := toL_len_lt hn
  clear hm h3' h2' h1'
  have HN0 := Lib.hid h0
  have HN := Lib.hid hn
  clear h0 hn
  have hgx := @lim_get m
  have hst := DivOut.start m n (toL m).length HN0.out lt_of_toL_len
  generalize toL m = xs at *
  have HGX : ∀ i, Hid (i < xs.length → xs[i]? = some (lim m i : Int)) := fun i => Lib.hid (@hgx i)
  have HST := Lib.hid hst
  clear hgx hst
  generalize hyl : (toL n).length = yl at *
  have HV := Lib.hid hvv
  clear hyl hvv
  go_enter Tryz.func78, Tryz.ntmps78
  go_wp2_with (at_make; refine wpList_mk _ rfl _ rfl Tryz.intP xs.length rfl rfl (by omega) ?_; intro w1 hrow0 hb0; have hs0 := Nat.le_of_lt hrow0.lt)
  go_loopw [9, 10] (fun r i wr => ∃ (k q : Nat) (Q : List Int) (x : Int), i = .int .i64 x ∧ x = (k : Int) - 1 ∧ k ≤ xs.length ∧ DivOut m n k Q q ∧ Row wr w.heap.size 3 w.heap.size xs.length Q ∧ Own wr (w.heap.size + 1) 3 r (toL q) ∧ Below w.heap.size w wr) (fun _ i _ => (intOf i + 1).toNat)
  case atStart => exact ⟨xs.length, 0, _, _, rfl, rfl, Nat.le_refl _, HST.out, hrow0.alloc _, by rw [toL_zero]; exact own_empty w1 hrow0.lt, (by repeat' (first | (with_reducible exact Below.refl _ _) | (with_reducible refine Below.alloc ?_ ?_ _) | (with_reducible refine Below.setCell ?_ ?_ _) | (with_reducible refine below_drewN ?_ _) | (with_reducible refine Below.drew ?_) | (with_reducible refine below_step (by assumption) ?_ ?_) | omega | (simp; done) | (simp; omega)))⟩
  case round =>
    obtain ⟨k, q, Q, z, rfl, hz, hk, hout, hrow, hown, hb⟩ := hrel
    clear hrow0 hb0
    have hwr := hrow.lt
    have hql : (toL q).length ≤ 150 := toL_len_lt (Nat.lt_trans hout.2.1 HN.out)
    cases k with
    | succ j =>
      obtain rfl : z = (j : Int) := by omega
      obtain ⟨b, off, rfl, hc⟩ := h3 (by omega)
      obtain ⟨d, hd⟩ : ∃ d : Int, d = (lim m j : Int) := ⟨_, rfl⟩
      have hcw := hc j d (by rw [(HGX j).out (by omega), hd])
      have hcell : wr.cell? ⟨b, off + j, none⟩ = some (.int .i64 d) := (hb.cell (World.block_lt_of_cell? w _ hcw)).trans hcw
      have d0 : 0 ≤ d := by omega
      have d1 : d < 1000000000 := by have := lim_lt m j; omega
      have HD := Lib.hid hd
      have HO := Lib.hid hout
      have HB := Lib.hid hb
      have HR := Lib.hid hrow
      clear hd hc hcw h3 hout hb hrow hz
      go_wp2_with (at_builtin; refine wpList_appS _ rfl _ _ rfl Tryz.intP (own_one wr d hwr) ((hown.sl).alloc _) rfl rfl (by simp; omega) (by simp; omega) ?_; intro v' w2 hown' hb' hg'; clear hg' hown)
      have hr2 := HR.out.alloc (.cells #[.int .i64 d] 3)
      have HR2 := Lib.hid (hr2.above hb')
      have HB2 := Lib.hid (show Below w.heap.size w w2 from ((HB.out.alloc (Nat.le_of_lt hwr) _).trans (hb'.mono (Nat.le_succ _))))
      have HL := Lib.hid (limbs_shift q d0 d1)
      have hval : (val ([d] ++ toL q)).toNat = lim m j + 1000000000 * q := by
        rw [val_shift, HD.out]
        omega
      have HVL := Lib.hid hval
      clear hr2 hb' hval hcell HR
      obtain ⟨D, cd, hv, e1, e2, e3⟩ := hown'.form
      subst hv
      clear e1 e2 e3
      have HOW := Lib.hid hown'
      clear hown'
      refine (spec_natTrim_own _ _ _ (w.heap.size + 1) ([d] ++ toL q) _ rfl HOW.out HL.out).mono ?_
      rintro e w3 ⟨r2, rfl, o2, rfl⟩
      rw [HVL.out] at o2
      obtain ⟨s, hs⟩ : ∃ s, s = lim m j + 1000000000 * q := ⟨_, rfl⟩
      rw [← hs] at o2
      have hin : DivIn m n j q 0 s := by rw [hs]; exact DivIn.start m n j q
      have hlt := hin.lt HO.out
      have HS := Lib.hid hs
      have HIN := Lib.hid hin
      have hwr2 := HR2.out.lt
      have hpl := HR2.out.len
      have hsl := Lib.hid o2.sl
      have hnl := Lib.hid (HV.out.below HB2.out)
      have HW2 := Lib.hid o2
      clear hs hin o2
      by_cases hneg : cmpN s n < 0
      · have HCL := Lib.hid (HIN.out.close HO.out (cmp_neg hneg) (by omega))
        have HST2 := Lib.hid (set_same (HO.out.zero (by omega)))
        clear hpl
        go_wp2_with fail
        refine (spec_natCmp _ _ s n _ hsl.out hnl.out).mono ?_
        rintro e w4 ⟨rfl, k4, rfl⟩
        go_wp2
        go_roundw
        case rel => exact ⟨j, s, Q, (j : Int) - 1, by go_num, rfl, by omega, by have h8 := HCL.out; rw [show ((0 : Nat) : Int) = 0 from rfl, HST2.out] at h8; exact h8, HR2.out.drewN k4, HW2.out.drewN k4, below_drewN HB2.out k4⟩
        case measure => simp [intOf]
      · have hle := cmp_nonneg hneg
        have HLE := Lib.hid hle
        have hq9 : (s / n) * n ≤ s := Nat.div_mul_le_self s n
        have hstep := HIN.out.step hq9
        have hx10 := hstep.digit HO.out
        rw [Nat.zero_add] at hstep hx10
        have hmod : s - s / n * n = s % n := by
          have h7 := Nat.div_add_mod s n
          rw [Nat.mul_comm] at h7
          exact Nat.sub_eq_of_eq_add (by rw [Nat.add_comm]; exact h7.symm)
        rw [hmod] at hstep
        have hcl := hstep.close HO.out (Nat.mod_lt _ HN0.out) (by omega)
        obtain ⟨dg, hdg⟩ : ∃ dg : Int, dg = ((s / n : Nat) : Int) := ⟨_, rfl⟩
        rw [← hdg] at hcl
        have HCL := Lib.hid hcl
        have HMOD := Lib.hid hmod
        have HDG := Lib.hid hdg
        have HQ9 := Lib.hid hq9
        have HX10 := Lib.hid hx10
        have dg0 : 0 ≤ dg := by rw [HDG.out]; exact Int.natCast_nonneg _
        have dg1 : dg < 1000000000 := by rw [HDG.out]; exact Int.ofNat_lt.2 hx10
        have HPW := Lib.hid (show s < pw 200 from Nat.lt_of_lt_of_le (Nat.lt_of_lt_of_le hlt (show n * 1000000000 ≤ pw 151 by rw [show pw 151 = 1000000000 * pw 150 from pw_succ 150]; have := HN.out; omega)) (pw_le (by omega)))
        have HNW := Lib.hid (show n < pw 200 from Nat.lt_of_lt_of_le HN.out (pw_le (by omega)))
        have HLT := Lib.hid hlt
        clear hle hq9 hstep hx10 hmod hcl hdg hlt hpl
        go_wp2_with fail
        refine (spec_natCmp _ _ s n _ hsl.out hnl.out).mono ?_
        rintro e w4 ⟨rfl, k4, rfl⟩
        go_wp2_with fail
        refine (spec_natDigit _ _ s n _ (hsl.out.drewN k4) (hnl.out.drewN k4) HN0.out HLT.out HN.out).mono ?_
        rintro e w5 ⟨rfl, b5⟩
        rw [← HDG.out]
        have HB5 := Lib.hid (show Below w2.heap.size w2 w5 from ⟨b5.os, b5.tape, b5.output, b5.size, b5.block⟩)
        have HR5 := Lib.hid (HR2.out.below HB5.out)
        obtain ⟨uu, huu⟩ := HR5.out.cellAt (j := j) (by omega)
        have hfz5 := HR5.out.frozen j
        have hjl : j < xs.length := by omega
        clear b5
        go_wp2_with fail
        have HC5 := Lib.hid (show Below w.heap.size w (w5.setCell ⟨w.heap.size, j, none⟩ (.int .i64 dg)) from (HB2.out.trans (HB5.out.mono (Nat.le_of_lt hwr2))).setCell (Nat.le_refl _) _)
        have HS5 := Lib.hid ((HW2.out.below HB5.out).far ⟨w.heap.size, j, none⟩ (.int .i64 dg) (Nat.lt_succ_self _))
        have HR6 := Lib.hid (HR5.out.set_ j dg)
        have HZ5 := Lib.hid HR6.out.lt
        generalize hw6 : w5.setCell ⟨w.heap.size, j, none⟩ (.int .i64 dg) = w6 at *
        have HG := Lib.hid hw6
        clear huu hfz5 hw6
        refine (spec_NatOf dg _ (by omega) (by omega)).mono ?_
        rintro e w7 ⟨r7, rfl, o7, b7⟩
        rw [HDG.out, Int.toNat_natCast] at o7
        have HO7 := Lib.hid o7
        have HB7 := Lib.hid b7
        clear o7 b7
        go_wp2_with fail
        refine (spec_natMul _ _ n (s / n) _ ((HV.out.below HC5.out).below HB7.out) HO7.out.sl HNW.out (Nat.lt_of_lt_of_le HX10.out (show pw 1 ≤ pw 200 from pw_le (by omega)))).mono ?_
        rintro e w8 ⟨r8, rfl, o8, b8⟩
        rw [Nat.mul_comm] at o8
        have HO8 := Lib.hid o8
        have HB8 := Lib.hid (HB7.out.trans (b8.mono HB7.out.size))
        clear o8 b8
        go_wp2_with fail
        refine (spec_natSub _ _ s (s / n * n) _ (HS5.out.sl.below HB8.out) HO8.out.sl HPW.out HQ9.out).mono ?_
        rintro e w9 ⟨r9, rfl, o9, b9⟩
        rw [HMOD.out] at o9
        have HB9 := Lib.hid (HB8.out.trans (b9.mono HB8.out.size))
        have HO9 := Lib.hid (o9.rebase (Nat.le_trans HZ5.out HB8.out.size))
        clear o9 b9
        go_wp2
        go_roundw
        case rel => exact ⟨j, s % n, Q.set j dg, (j : Int) - 1, by go_num, rfl, by omega, HCL.out, HR6.out.below HB9.out, HO9.out, HC5.out.trans (HB9.out.mono (Nat.le_of_lt HZ5.out))⟩
        case measure => simp [intOf]
    | zero =>
      obtain rfl : z = -1 := by omega
      have hd := hout.done
      have HD := Lib.hid hd
      have HO := Lib.hid (hd.2.2 ▸ hown)
      have HR := Lib.hid hrow
      have HB := Lib.hid hb
      clear hout hd hown hrow hb hz hk
      go_wp2_with fail
      refine (spec_natTrim_row w.heap.size xs.length w.heap.size Q _ HR.out HD.out.1).mono ?_
      rintro e w3 ⟨r3, rfl, o3, rfl⟩
      rw [HD.out.2.1] at o3
      go_wp2
      go_ret2
      exact ⟨_, _, w.heap.size, w.heap.size + 1, w.heap.size + 1, wr.heap.size, rfl, o3, OwnR.of HO.out, Nat.le_refl _, Nat.le_succ _, .inl (Nat.le_refl _), hwr, Nat.le_refl _, HB.out, Nat.le_succ _, hwr⟩

theorem spec_natDiv (u v : Value) (m n : Nat) (w : World) (hu : Sl w u (toL m)) (hv : Sl w v (toL n)) (h0 : 0 < n) (hm : m < pw 200) (hn : n < pw 150) :
    Calls Tryz.prog 78 #[u, v] w (RetTwo 3 (toL (m / n)) (toL (m % n)) w) := by
  by_cases h : (toL n).length = 1
  · exact spec_natDivOne u v m n w hu hv h0 hm h
  · exact spec_natDivLong u v m n w hu hv h0 hm hn (beq_eq_false_iff_ne.2 (by omega))
end Go.Proofs.YticekjagmcphbaaGreatDoor
