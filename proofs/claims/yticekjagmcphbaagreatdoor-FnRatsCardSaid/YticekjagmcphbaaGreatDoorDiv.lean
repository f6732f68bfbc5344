/-
  Contracts: long division. Written by an AI agent.
-/
import Derived.Test.YticekjagmcphbaaGreatDoorDivM
import Derived.Deep.LoopGhost
import Derived.Deep.RegionHeld3
import Derived.Deep.Light
namespace Go.Proofs.YticekjagmcphbaaGreatDoor
open Go.RowKit


/-- natTrim of a row in block g. -/
theorem impl_natTrim_row (g n lo : Nat) (Q : List Int) (w : World) (h : Row w lo 3 g n Q) (hlm : Limbs Q) :
    Calls Tryz.prog 65 #[.slice (some ⟨g, 0, none⟩) n n] w fun e w' => ∃ r, e = .returned r ∧ OwnR w' lo (g + 1) 3 r (toL (val Q).toNat) ∧ w = w' := by
  have hn := h.len
  have ho := h.own hn
  have hl := h.lo
  subst hn
  exact (impl_natTrim (some ⟨g, 0, none⟩) Q.length Q w ho.sl hlm).mono fun _ _ ⟨he, hw⟩ => ⟨_, he, ⟨hw ▸ ho.trim hlm, fun k hk => by cases hk; exact Nat.lt_succ_self g⟩, hw⟩

/-- natTrim of a row in block g. -/
theorem spec_natTrim_row (g n lo : Nat) (Q : List Int) (w : World) (h : Row w lo 3 g n Q) (hlm : Limbs Q) :
    Calls Tryz.prog 75 #[.slice (some ⟨g, 0, none⟩) n n] w fun e w' => ∃ r, e = .returned r ∧ OwnR w' lo (g + 1) 3 r (toL (val Q).toNat) ∧ w = w' := by
  have hn := h.len
  have ho := h.own hn
  have hl := h.lo
  subst hn
  exact (spec_natTrim (some ⟨g, 0, none⟩) Q.length Q w ho.sl hlm).mono fun _ _ ⟨he, hw⟩ => ⟨_, he, ⟨hw ▸ ho.trim hlm, fun k hk => by cases hk; exact Nat.lt_succ_self g⟩, hw⟩

theorem set_same {Q : List Int} {j : Nat} {d : Int} (h : Q[j]? = some d) : Q.set j d = Q := by
  obtain ⟨hj, he⟩ := List.getElem?_eq_some_iff.1 h
  rw [← he]
  exact List.set_getElem_self hj
theorem Row.lt {w : World} {lo e g n : Nat} {xs : List Int} (h : Row w lo e g n xs) : g < w.heap.size := (World.ownsRow.lt h g rfl).2
theorem Row.alloc {w : World} {lo e g n : Nat} {xs : List Int} (h : Row w lo e g n xs) (o : Obj) : Row (w.alloc o) lo e g n xs := h.below ((Below.refl _ _).alloc (Nat.le_refl _) o)
/-- A row in block g stays where only blocks from g + 1 on turn. -/
theorem Row.above {w w' : World} {lo e g n : Nat} {xs : List Int} (h : Row w lo e g n xs) (hb : Below (g + 1) w w') : Row w' lo e g n xs := by
  have hn := h.len
  have := (h.ownR hn).below hb (Nat.le_refl _)
  have h1 := this.1
  unfold Own at h1
  rw [hn] at h1
  exact h1


set_option maxHeartbeats 4000000 in
theorem impl_natDivLongA (u v : Value) (m n : Nat) (w : World) (hu : Sl w u (toL m)) (hv : Sl w v (toL n)) (h0 : 0 < n) (hm : m < pw 200) (hn : n < pw 150) (hlong:2<(toL m).length) :
    Calls Tryz.prog 53 #[u, v] w (RetTwo 3 (toL (m / n)) (toL (m % n)) w) := by
  obtain ⟨A, c, rfl, h1, h2, h3⟩ := hu
  have hvv := hv
  obtain ⟨A', c', rfl, h1', h2', h3'⟩ := hv
  have hl1 : (toL m).length ≤ 200 := toL_len_lt hm
  have hl2 : (toL n).length ≤ 150 := toL_len_lt hn
  clear hm h3' h2' h1'
  have HN0 := Lib.hid h0
  have HN := Lib.hid hn
  clear h0 hn
  have hgx := @lim_get m
  have hst := DivOut.start m n (toL m).length HN0.out lt_of_toL_len
  generalize toL m = xs at *
  have HGX : ∀ i, Hid (i < xs.length → xs[i]? = some (lim m i : Int)) := fun i => Lib.hid (@hgx i)
  have HST := Lib.hid hst
  clear hgx hst
  generalize hyl : (toL n).length = yl at *
  have HV := Lib.hid hvv
  clear hyl hvv
  try have hdec : decide ((yl : Int) ≤ 2) = false := by simp; omega
  go_enter Tryz.func53, Tryz.ntmps53
  go_wp2_with (at_make; refine wpList_mk _ rfl _ rfl Tryz.intP xs.length rfl rfl (by omega) ?_; intro w1 hrow0 hb0; have hs0 := Nat.le_of_lt hrow0.lt)
  go_loopw [9, 10] (fun r i wr => ∃ (k q : Nat) (Q : List Int) (x : Int), i = .int .i64 x ∧ x = (k : Int) - 1 ∧ k ≤ xs.length ∧ DivOut m n k Q q ∧ Row wr w.heap.size 3 w.heap.size xs.length Q ∧ Own wr (w.heap.size + 1) 3 r (toL q) ∧ Below w.heap.size w wr) (fun _ i _ => (intOf i + 1).toNat)
  case atStart => exact ⟨xs.length, 0, _, _, rfl, rfl, Nat.le_refl _, HST.out, hrow0.alloc _, by rw [toL_zero]; exact own_empty w1 hrow0.lt, (by repeat' (first | (with_reducible exact Below.refl _ _) | (with_reducible refine Below.alloc ?_ ?_ _) | (with_reducible refine Below.setCell ?_ ?_ _) | (with_reducible refine below_drewN ?_ _) | (with_reducible refine Below.drew ?_) | (with_reducible refine below_step (by assumption) ?_ ?_) | omega | (simp; done) | (simp; omega)))⟩
  case round =>
    obtain ⟨k, q, Q, z, rfl, hz, hk, hout, hrow, hown, hb⟩ := hrel
    clear hrow0 hb0
    have hwr := hrow.lt
    have hql : (toL q).length ≤ 150 := toL_len_lt (Nat.lt_trans hout.2.1 HN.out)
    cases k with
    | succ j =>
      obtain rfl : z = (j : Int) := by omega
      obtain ⟨b, off, rfl, hc⟩ := h3 (by omega)
      obtain ⟨d, hd⟩ : ∃ d : Int, d = (lim m j : Int) := ⟨_, rfl⟩
      have hcw := hc j d (by rw [(HGX j).out (by omega), hd])
      have hcell : wr.cell? ⟨b, off + j, none⟩ = some (.int .i64 d) := (hb.cell (World.block_lt_of_cell? w _ hcw)).trans hcw
      have d0 : 0 ≤ d := by omega
      have d1 : d < 1000000000 := by have := lim_lt m j; omega
      have HD := Lib.hid hd
      have HO := Lib.hid hout
      have HB := Lib.hid hb
      have HR := Lib.hid hrow
      clear hd hc hcw h3 hout hb hrow hz
      go_wp2_with (at_builtin; refine wpList_appS _ rfl _ _ rfl Tryz.intP (own_one wr d hwr) ((hown.sl).alloc _) rfl rfl (by simp; omega) (by simp; omega) ?_; intro v' w2 hown' hb' hg'; clear hg' hown)
      have hr2 := HR.out.alloc (.cells #[.int .i64 d] 3)
      have HR2 := Lib.hid (hr2.above hb')
      have HB2 := Lib.hid (show Below w.heap.size w w2 from ((HB.out.alloc (Nat.le_of_lt hwr) _).trans (hb'.mono (Nat.le_succ _))))
      have HL := Lib.hid (limbs_shift q d0 d1)
      have hval : (val ([d] ++ toL q)).toNat = lim m j + 1000000000 * q := by
        rw [val_shift, HD.out]
        omega
      have HVL := Lib.hid hval
      clear hr2 hb' hval hcell HR
      obtain ⟨D, cd, hv, e1, e2, e3⟩ := hown'.form
      subst hv
      clear e1 e2 e3
      have HOW := Lib.hid hown'
      clear hown'
      refine (impl_natTrim_own _ _ _ (w.heap.size + 1) ([d] ++ toL q) _ rfl HOW.out HL.out).mono ?_
      rintro e w3 ⟨r2, rfl, o2, rfl⟩
      rw [HVL.out] at o2
      go_wp2
      go_loopg [9] (lim m j + 1000000000 * q) (fun g r wr => ∃ (x s : Nat), g = s ∧ DivIn m n j q x s ∧ Row wr w.heap.size 3 w.heap.size xs.length (Q.set j (x : Int)) ∧ Own wr (w.heap.size + 1) 3 r (toL s) ∧ Below w.heap.size w wr)
      case atStart => exact ⟨0, _, rfl, DivIn.start m n j q, by rw [show ((0 : Nat) : Int) = 0 from rfl, set_same (HO.out.zero (by have := HR2.out.len; omega))]; exact HR2.out, o2, HB2.out⟩
      case round =>
        obtain ⟨x, s, hg, hin, hrow, hown, hb⟩ := hrel
        subst hg
        clear o2
        have hwr2 := hrow.lt
        have hx9 := hin.digit HO.out
        have hs9 := hin.lt HO.out
        have hsl := Lib.hid hown.sl
        have hnl := Lib.hid (HV.out.below hb)
        have HIN := Lib.hid hin
        have HRW := Lib.hid hrow
        have HB3 := Lib.hid hb
        have HW3 := Lib.hid hown
        clear hin hrow hb hown
        by_cases hneg : cmpN gk n < 0
        · have hge : ¬ 0 ≤ cmpN gk n := by omega
          have HCL := Lib.hid (HIN.out.close HO.out (cmp_neg hneg) (by have := HR2.out.len; omega))
          clear hneg
          go_wp2_with fail
          refine (impl_natCmp _ _ gk n _ hsl.out hnl.out).mono ?_
          rintro e w4 ⟨rfl, k4, rfl⟩
          go_wp2
          go_roundw
          case rel => exact ⟨j, gk, Q.set j (x : Int), (j : Int) - 1, by go_num, rfl, by omega, HCL.out, HRW.out.drewN k4, HW3.out.drewN k4, below_drewN HB3.out k4⟩
          case measure => simp [intOf]
        · have hge : 0 ≤ cmpN gk n := by omega
          have hle := cmp_nonneg hneg
          clear hneg
          go_wp2_with fail
          refine (impl_natCmp _ _ gk n _ hsl.out hnl.out).mono ?_
          rintro e w4 ⟨rfl, k4, rfl⟩
          go_wp2_with fail
          refine (impl_natGuess _ _ gk n _ (hsl.out.drewN k4) (hnl.out.drewN k4) HN0.out hle hs9).mono ?_
          rintro e w5 ⟨d9, rfl, hd1, hd2, rfl⟩
          have hd3 : d9 < 1000000000 := Nat.lt_of_mul_lt_mul_right (a := n) (by omega)
          have hpos : 0 < d9 * n := Nat.mul_pos hd1 HN0.out
          have hn150 := HN.out
          have hstep := HIN.out.step hd2
          have hx10 := hstep.digit HO.out
          have hcx := HRW.out.cell (j := j) (d := (x : Int)) (by rw [List.getElem?_set_self (by have := HR2.out.len; omega)])
          have hfx := HRW.out.frozen j
          have HS := Lib.hid hstep
          have HD3 := Lib.hid hd3
          have HD1 := Lib.hid hd1
          have HD2 := Lib.hid hd2
          have HPOS := Lib.hid hpos
          have HPW := Lib.hid (show gk < pw 200 from Nat.lt_of_lt_of_le (Nat.lt_of_lt_of_le hs9 (show n * 1000000000 ≤ pw 151 by rw [show pw 151 = 1000000000 * pw 150 from pw_succ 150]; omega)) (pw_le (by omega)))
          have HNW := Lib.hid (show n < pw 200 from Nat.lt_of_lt_of_le hn150 (pw_le (by omega)))
          clear hstep hd1 hd2 hd3 hpos hn150 hle
          have hone : ∀ W : World, Hid (Sl (W.alloc (.cells #[.int .i64 (d9 : Int)] 3)) (.slice (some ⟨W.heap.size, 0, none⟩) 1 1) (toL d9)) := fun W => Lib.hid (by rw [toL_digit HD1.out HD3.out]; exact (own_one (base := 0) W _ (Nat.zero_le _)).sl)
          go_wp2_with fail
          refine (impl_natMul _ _ n d9 _ ((hnl.out.drewN k4).alloc _) (hone _).out HNW.out (Nat.lt_of_lt_of_le HD3.out (show pw 1 ≤ pw 200 from pw_le (by omega)))).mono ?_
          rintro e w6 ⟨r6, rfl, o6, b6⟩
          have HB6 := Lib.hid (show Below wr.heap.size wr w6 from ((below_drewN (Below.refl _ wr) k4).alloc (Nat.le_refl _) _).trans (b6.mono (by simp)))
          have HO6 := Lib.hid o6
          clear o6 b6
          go_wp2_with fail
          refine (impl_natSub _ _ gk (n * d9) _ (hsl.out.below HB6.out) HO6.out.sl HPW.out (by rw [Nat.mul_comm]; exact HD2.out)).mono ?_
          rintro e w7 ⟨r7, rfl, o7, b7⟩
          rw [Nat.mul_comm] at o7
          have HB7 := Lib.hid (show Below wr.heap.size wr w7 from HB6.out.trans (b7.mono HB6.out.size))
          have HO7 := Lib.hid (o7.rebase (show w.heap.size + 1 ≤ w6.heap.size from Nat.le_trans hwr2 HB6.out.size))
          have HR7 := Lib.hid (HRW.out.below HB7.out)
          have hcx7 := HR7.out.cell (j := j) (d := (x : Int)) (by rw [List.getElem?_set_self (by have := HR2.out.len; omega)])
          have hfx7 := HR7.out.frozen j
          clear o7 b7 hcx hfx
          have hjl : j < xs.length := by omega
          go_wp2
          go_roundg (gk - d9 * n)
          case measure => have h8 := HPOS.out; have h9 := HD2.out; omega
          case rel => exact ⟨x + d9, gk - d9 * n, rfl, HS.out, by have h8 := HR7.out.set_ j ((x : Int) + (d9 : Int)); rw [List.set_set] at h8; exact h8, HO7.out.far _ _ (Nat.lt_succ_self _), (HB3.out.trans (HB7.out.mono (Nat.le_of_lt hwr2))).setCell (Nat.le_refl _) _⟩
    | zero =>
      obtain rfl : z = -1 := by omega
      have hd := hout.done
      have HD := Lib.hid hd
      have HO := Lib.hid (hd.2.2 ▸ hown)
      have HR := Lib.hid hrow
      have HB := Lib.hid hb
      clear hout hd hown hrow hb hz hk
      go_wp2_with fail
      refine (impl_natTrim_row w.heap.size xs.length w.heap.size Q _ HR.out HD.out.1).mono ?_
      rintro e w3 ⟨r3, rfl, o3, rfl⟩
      rw [HD.out.2.1] at o3
      go_wp2
      go_ret2
      exact ⟨_, _, w.heap.size, w.heap.size + 1, w.heap.size + 1, wr.heap.size, rfl, o3, OwnR.of HO.out, Nat.le_refl _, Nat.le_succ _, .inl (Nat.le_refl _), hwr, Nat.le_refl _, HB.out, Nat.le_succ _, hwr⟩

set_option maxHeartbeats 4000000 in
theorem impl_natDivLongB (u v : Value) (m n : Nat) (w : World) (hu : Sl w u (toL m)) (hv : Sl w v (toL n)) (h0 : 0 < n) (hm : m < pw 200) (hn : n < pw 150) (hlong:(toL m).length≤2)(hlong2:2<(toL n).length) :
    Calls Tryz.prog 53 #[u, v] w (RetTwo 3 (toL (m / n)) (toL (m % n)) w) := by
  obtain ⟨A, c, rfl, h1, h2, h3⟩ := hu
  have hvv := hv
  obtain ⟨A', c', rfl, h1', h2', h3'⟩ := hv
  have hl1 : (toL m).length ≤ 200 := toL_len_lt hm
  have hl2 : (toL n).length ≤ 150 := toL_len_lt hn
  clear hm h3' h2' h1'
  have HN0 := Lib.hid h0
  have HN := Lib.hid hn
  clear h0 hn
  have hgx := @lim_get m
  have hst := DivOut.start m n (toL m).length HN0.out lt_of_toL_len
  generalize toL m = xs at *
  have HGX : ∀ i, Hid (i < xs.length → xs[i]? = some (lim m i : Int)) := fun i => Lib.hid (@hgx i)
  have HST := Lib.hid hst
  clear hgx hst
  generalize hyl : (toL n).length = yl at *
  have HV := Lib.hid hvv
  clear hyl hvv
  try have hdec : decide ((yl : Int) ≤ 2) = false := by simp; omega
  go_enter Tryz.func53, Tryz.ntmps53
  go_wp2_with (at_make; refine wpList_mk _ rfl _ rfl Tryz.intP xs.length rfl rfl (by omega) ?_; intro w1 hrow0 hb0; have hs0 := Nat.le_of_lt hrow0.lt)
  go_loopw [9, 10] (fun r i wr => ∃ (k q : Nat) (Q : List Int) (x : Int), i = .int .i64 x ∧ x = (k : Int) - 1 ∧ k ≤ xs.length ∧ DivOut m n k Q q ∧ Row wr w.heap.size 3 w.heap.size xs.length Q ∧ Own wr (w.heap.size + 1) 3 r (toL q) ∧ Below w.heap.size w wr) (fun _ i _ => (intOf i + 1).toNat)
  case atStart => exact ⟨xs.length, 0, _, _, rfl, rfl, Nat.le_refl _, HST.out, hrow0.alloc _, by rw [toL_zero]; exact own_empty w1 hrow0.lt, (by repeat' (first | (with_reducible exact Below.refl _ _) | (with_reducible refine Below.alloc ?_ ?_ _) | (with_reducible refine Below.setCell ?_ ?_ _) | (with_reducible refine below_drewN ?_ _) | (with_reducible refine Below.drew ?_) | (with_reducible refine below_step (by assumption) ?_ ?_) | omega | (simp; done) | (simp; omega)))⟩
  case round =>
    obtain ⟨k, q, Q, z, rfl, hz, hk, hout, hrow, hown, hb⟩ := hrel
    clear hrow0 hb0
    have hwr := hrow.lt
    have hql : (toL q).length ≤ 150 := toL_len_lt (Nat.lt_trans hout.2.1 HN.out)
    cases k with
    | succ j =>
      obtain rfl : z = (j : Int) := by omega
      obtain ⟨b, off, rfl, hc⟩ := h3 (by omega)
      obtain ⟨d, hd⟩ : ∃ d : Int, d = (lim m j : Int) := ⟨_, rfl⟩
      have hcw := hc j d (by rw [(HGX j).out (by omega), hd])
      have hcell : wr.cell? ⟨b, off + j, none⟩ = some (.int .i64 d) := (hb.cell (World.block_lt_of_cell? w _ hcw)).trans hcw
      have d0 : 0 ≤ d := by omega
      have d1 : d < 1000000000 := by have := lim_lt m j; omega
      have HD := Lib.hid hd
      have HO := Lib.hid hout
      have HB := Lib.hid hb
      have HR := Lib.hid hrow
      clear hd hc hcw h3 hout hb hrow hz
      go_wp2_with (at_builtin; refine wpList_appS _ rfl _ _ rfl Tryz.intP (own_one wr d hwr) ((hown.sl).alloc _) rfl rfl (by simp; omega) (by simp; omega) ?_; intro v' w2 hown' hb' hg'; clear hg' hown)
      have hr2 := HR.out.alloc (.cells #[.int .i64 d] 3)
      have HR2 := Lib.hid (hr2.above hb')
      have HB2 := Lib.hid (show Below w.heap.size w w2 from ((HB.out.alloc (Nat.le_of_lt hwr) _).trans (hb'.mono (Nat.le_succ _))))
      have HL := Lib.hid (limbs_shift q d0 d1)
      have hval : (val ([d] ++ toL q)).toNat = lim m j + 1000000000 * q := by
        rw [val_shift, HD.out]
        omega
      have HVL := Lib.hid hval
      clear hr2 hb' hval hcell HR
      obtain ⟨D, cd, hv, e1, e2, e3⟩ := hown'.form
      subst hv
      clear e1 e2 e3
      have HOW := Lib.hid hown'
      clear hown'
      refine (impl_natTrim_own _ _ _ (w.heap.size + 1) ([d] ++ toL q) _ rfl HOW.out HL.out).mono ?_
      rintro e w3 ⟨r2, rfl, o2, rfl⟩
      rw [HVL.out] at o2
      go_wp2
      go_loopg [9] (lim m j + 1000000000 * q) (fun g r wr => ∃ (x s : Nat), g = s ∧ DivIn m n j q x s ∧ Row wr w.heap.size 3 w.heap.size xs.length (Q.set j (x : Int)) ∧ Own wr (w.heap.size + 1) 3 r (toL s) ∧ Below w.heap.size w wr)
      case atStart => exact ⟨0, _, rfl, DivIn.start m n j q, by rw [show ((0 : Nat) : Int) = 0 from rfl, set_same (HO.out.zero (by have := HR2.out.len; omega))]; exact HR2.out, o2, HB2.out⟩
      case round =>
        obtain ⟨x, s, hg, hin, hrow, hown, hb⟩ := hrel
        subst hg
        clear o2
        have hwr2 := hrow.lt
        have hx9 := hin.digit HO.out
        have hs9 := hin.lt HO.out
        have hsl := Lib.hid hown.sl
        have hnl := Lib.hid (HV.out.below hb)
        have HIN := Lib.hid hin
        have HRW := Lib.hid hrow
        have HB3 := Lib.hid hb
        have HW3 := Lib.hid hown
        clear hin hrow hb hown
        by_cases hneg : cmpN gk n < 0
        · have hge : ¬ 0 ≤ cmpN gk n := by omega
          have HCL := Lib.hid (HIN.out.close HO.out (cmp_neg hneg) (by have := HR2.out.len; omega))
          clear hneg
          go_wp2_with fail
          refine (impl_natCmp _ _ gk n _ hsl.out hnl.out).mono ?_
          rintro e w4 ⟨rfl, k4, rfl⟩
          go_wp2
          go_roundw
          case rel => exact ⟨j, gk, Q.set j (x : Int), (j : Int) - 1, by go_num, rfl, by omega, HCL.out, HRW.out.drewN k4, HW3.out.drewN k4, below_drewN HB3.out k4⟩
          case measure => simp [intOf]
        · have hge : 0 ≤ cmpN gk n := by omega
          have hle := cmp_nonneg hneg
          clear hneg
          go_wp2_with fail
          refine (impl_natCmp _ _ gk n _ hsl.out hnl.out).mono ?_
          rintro e w4 ⟨rfl, k4, rfl⟩
          go_wp2_with fail
          refine (impl_natGuess _ _ gk n _ (hsl.out.drewN k4) (hnl.out.drewN k4) HN0.out hle hs9).mono ?_
          rintro e w5 ⟨d9, rfl, hd1, hd2, rfl⟩
          have hd3 : d9 < 1000000000 := Nat.lt_of_mul_lt_mul_right (a := n) (by omega)
          have hpos : 0 < d9 * n := Nat.mul_pos hd1 HN0.out
          have hn150 := HN.out
          have hstep := HIN.out.step hd2
          have hx10 := hstep.digit HO.out
          have hcx := HRW.out.cell (j := j) (d := (x : Int)) (by rw [List.getElem?_set_self (by have := HR2.out.len; omega)])
          have hfx := HRW.out.frozen j
          have HS := Lib.hid hstep
          have HD3 := Lib.hid hd3
          have HD1 := Lib.hid hd1
          have HD2 := Lib.hid hd2
          have HPOS := Lib.hid hpos
          have HPW := Lib.hid (show gk < pw 200 from Nat.lt_of_lt_of_le (Nat.lt_of_lt_of_le hs9 (show n * 1000000000 ≤ pw 151 by rw [show pw 151 = 1000000000 * pw 150 from pw_succ 150]; omega)) (pw_le (by omega)))
          have HNW := Lib.hid (show n < pw 200 from Nat.lt_of_lt_of_le hn150 (pw_le (by omega)))
          clear hstep hd1 hd2 hd3 hpos hn150 hle
          have hone : ∀ W : World, Hid (Sl (W.alloc (.cells #[.int .i64 (d9 : Int)] 3)) (.slice (some ⟨W.heap.size, 0, none⟩) 1 1) (toL d9)) := fun W => Lib.hid (by rw [toL_digit HD1.out HD3.out]; exact (own_one (base := 0) W _ (Nat.zero_le _)).sl)
          go_wp2_with fail
          refine (impl_natMul _ _ n d9 _ ((hnl.out.drewN k4).alloc _) (hone _).out HNW.out (Nat.lt_of_lt_of_le HD3.out (show pw 1 ≤ pw 200 from pw_le (by omega)))).mono ?_
          rintro e w6 ⟨r6, rfl, o6, b6⟩
          have HB6 := Lib.hid (show Below wr.heap.size wr w6 from ((below_drewN (Below.refl _ wr) k4).alloc (Nat.le_refl _) _).trans (b6.mono (by simp)))
          have HO6 := Lib.hid o6
          clear o6 b6
          go_wp2_with fail
          refine (impl_natSub _ _ gk (n * d9) _ (hsl.out.below HB6.out) HO6.out.sl HPW.out (by rw [Nat.mul_comm]; exact HD2.out)).mono ?_
          rintro e w7 ⟨r7, rfl, o7, b7⟩
          rw [Nat.mul_comm] at o7
          have HB7 := Lib.hid (show Below wr.heap.size wr w7 from HB6.out.trans (b7.mono HB6.out.size))
          have HO7 := Lib.hid (o7.rebase (show w.heap.size + 1 ≤ w6.heap.size from Nat.le_trans hwr2 HB6.out.size))
          have HR7 := Lib.hid (HRW.out.below HB7.out)
          have hcx7 := HR7.out.cell (j := j) (d := (x : Int)) (by rw [List.getElem?_set_self (by have := HR2.out.len; omega)])
          have hfx7 := HR7.out.frozen j
          clear o7 b7 hcx hfx
          have hjl : j < xs.length := by omega
          go_wp2
          go_roundg (gk - d9 * n)
          case measure => have h8 := HPOS.out; have h9 := HD2.out; omega
          case rel => exact ⟨x + d9, gk - d9 * n, rfl, HS.out, by have h8 := HR7.out.set_ j ((x : Int) + (d9 : Int)); rw [List.set_set] at h8; exact h8, HO7.out.far _ _ (Nat.lt_succ_self _), (HB3.out.trans (HB7.out.mono (Nat.le_of_lt hwr2))).setCell (Nat.le_refl _) _⟩
    | zero =>
      obtain rfl : z = -1 := by omega
      have hd := hout.done
      have HD := Lib.hid hd
      have HO := Lib.hid (hd.2.2 ▸ hown)
      have HR := Lib.hid hrow
      have HB := Lib.hid hb
      clear hout hd hown hrow hb hz hk
      go_wp2_with fail
      refine (impl_natTrim_row w.heap.size xs.length w.heap.size Q _ HR.out HD.out.1).mono ?_
      rintro e w3 ⟨r3, rfl, o3, rfl⟩
      rw [HD.out.2.1] at o3
      go_wp2
      go_ret2
      exact ⟨_, _, w.heap.size, w.heap.size + 1, w.heap.size + 1, wr.heap.size, rfl, o3, OwnR.of HO.out, Nat.le_refl _, Nat.le_succ _, .inl (Nat.le_refl _), hwr, Nat.le_refl _, HB.out, Nat.le_succ _, hwr⟩

end Go.Proofs.YticekjagmcphbaaGreatDoor
