/-
  Contracts: comparing natural numbers. Written by an AI agent.
-/
import Derived.Test.YticekjagmcphbaaGreatDoorNum
import Derived.Test.YticekjagmcphbaaGreatDoorInts
import Derived.Test.YticekjagmcphbaaGreatDoorNatOk2
namespace Go.Proofs.YticekjagmcphbaaGreatDoor
open Go.RowKit

def cmpN (m n : Nat) : Int := if m < n then -1 else if n < m then 1 else 0
theorem cmpN_lt {m n : Nat} (h : m < n) : cmpN m n = -1 := by simp [cmpN, h]
theorem cmpN_gt {m n : Nat} (h : n < m) : cmpN m n = 1 := by unfold cmpN; rw [if_neg (by omega), if_pos h]
theorem cmpN_eq (m : Nat) : cmpN m m = 0 := by simp [cmpN]

theorem div_pw_succ (m j : Nat) : m / pw (j + 1) = m / pw j / 1000000000 := by rw [pw_succ, Nat.mul_comm, Nat.div_div_eq_div_mul]
theorem lt_of_div_lt {m n p : Nat} (h : m / p < n / p) : m < n := by
  rcases Nat.lt_or_ge m n with h1 | h1
  · exact h1
  · have := Nat.div_le_div_right (c := p) h1
    omega
theorem top_div {m : Nat} : m / pw (toL m).length = 0 := Nat.div_eq_of_lt lt_of_toL_len
theorem len_lt_lt {m n : Nat} (h : (toL m).length < (toL n).length) : m < n := by
  have h0 : 0 < n := by
    rcases Nat.eq_zero_or_pos n with h0 | h0
    · subst h0; rw [toL_zero] at h; simp at h
    · exact h0
  have h1 := toL_len_ge h0
  have h2 := lt_of_toL_len (n := m)
  have h3 := pw_le (show (toL m).length ≤ (toL n).length - 1 by omega)
  omega
/-- Down to limb j the two numbers agree. -/
def Agree (m n : Nat) (j : Nat) : Prop := m / pw j = n / pw j
theorem Agree.top {m n : Nat} (h : (toL m).length = (toL n).length) : Agree m n (toL m).length := by
  unfold Agree
  rw [top_div, h, top_div]
theorem Agree.less {m n j : Nat} {d f : Int} (h : Agree m n (j + 1)) (hd : d = ((m / pw j % 1000000000 : Nat) : Int)) (hf : f = ((n / pw j % 1000000000 : Nat) : Int)) (hlt : d < f) : m < n := by
  unfold Agree at h
  rw [div_pw_succ, div_pw_succ] at h
  exact lt_of_div_lt (p := pw j) (by omega)
theorem Agree.more {m n j : Nat} {d f : Int} (h : Agree m n (j + 1)) (hd : d = ((m / pw j % 1000000000 : Nat) : Int)) (hf : f = ((n / pw j % 1000000000 : Nat) : Int)) (hlt : f < d) : n < m := by
  unfold Agree at h
  rw [div_pw_succ, div_pw_succ] at h
  exact lt_of_div_lt (p := pw j) (by omega)
theorem Agree.step {m n j : Nat} {d f : Int} (h : Agree m n (j + 1)) (hd : d = ((m / pw j % 1000000000 : Nat) : Int)) (hf : f = ((n / pw j % 1000000000 : Nat) : Int)) (he : d = f) : Agree m n j := by
  unfold Agree at h ⊢
  rw [div_pw_succ, div_pw_succ] at h
  omega
theorem Agree.eq {m n : Nat} (h : Agree m n 0) : m = n := by
  unfold Agree at h
  simpa [pw_zero] using h


set_option maxHeartbeats 1000000 in
theorem impl_natCmp (u v : Value) (m n : Nat) (w : World) (hu : Sl w u (toL m)) (hv : Sl w v (toL n)) :
    Calls Tryz.prog 59 #[u, v] w fun e w' => e = .returned (.int .i64 (cmpN m n)) ∧ ∃ k, w' = w.drewN k := by
  obtain ⟨A, c, rfl, h1, h2, h3⟩ := hu
  obtain ⟨B, c', rfl, k1, k2, k3⟩ := hv
  obtain ⟨xs, hxs⟩ : ∃ xs, xs = toL m := ⟨_, rfl⟩
  obtain ⟨ys, hys⟩ : ∃ ys, ys = toL n := ⟨_, rfl⟩
  have hltl := @len_lt_lt m n
  have hgtl := @len_lt_lt n m
  have htop := @Agree.top m n
  have hgx := toL_at m
  have hgy := toL_at n
  rw [← hxs] at h1 h3 hltl hgtl htop hgx ⊢
  rw [← hys] at k1 k3 hltl hgtl htop hgy ⊢
  clear hxs hys
  have HLT := Lib.hid hltl
  have HGT := Lib.hid hgtl
  have HTOP := Lib.hid htop
  have HGX := Lib.hid hgx
  have HGY := Lib.hid hgy
  clear hltl hgtl htop hgx hgy
  have hm : xs.length ≤ 9223372036854775807 := by unfold maxLen at h2; omega
  have hm' : ys.length ≤ 9223372036854775807 := by unfold maxLen at k2; omega
  rcases Nat.lt_trichotomy xs.length ys.length with hl | hl | hl
  · have HR := Lib.hid (cmpN_lt (HLT.out hl))
    have hb : ((xs.length : Int) != (ys.length : Int)) = true := by simp; omega
    go_enter Tryz.func59, Tryz.ntmps59
    go_wp2
    go_ret
    exact ⟨ret_int HR.out.symm, ⟨0, rfl⟩⟩
  · have HA := Lib.hid (HTOP.out hl)
    have hb : ((xs.length : Int) != (ys.length : Int)) = false := by simp [hl]
    have HL := Lib.hid hl
    have hl1 : ¬ xs.length < ys.length := by omega
    have hl2 : ¬ ys.length < xs.length := by omega
    clear hl
    go_enter Tryz.func59, Tryz.ntmps59
    go_wp2
    go_loopw [5] (fun i wr => ∃ x : Int, i = .int .i64 x ∧ -1 ≤ x ∧ x < xs.length ∧ (∃ q, wr = w.drewN q) ∧ Agree m n (x + 1).toNat) (fun i _ => (intOf i + 1).toNat)
    case atStart => exact ⟨_, rfl, by omega, by omega, ⟨0, rfl⟩, by have := HA.out; rwa [show ((xs.length : Int) - 1 + 1).toNat = xs.length by omega]⟩
    case round =>
      obtain ⟨x, rfl, hx1, hx2, ⟨q, rfl⟩, hag⟩ := hrel
      by_cases hx : 0 ≤ x
      · obtain ⟨j, rfl⟩ := Int.eq_ofNat_of_zero_le hx
        rw [show ((j : Int) + 1).toNat = j + 1 by omega] at hag
        have HG := Lib.hid hag; clear hag
        have hlt : j < xs.length := by omega
        have hlt' : j < ys.length := by have := HL.out; omega
        obtain ⟨b, off, rfl, hc⟩ := h3 (by omega)
        obtain ⟨b', off', rfl, hc'⟩ := k3 (by omega)
        obtain ⟨d, hd⟩ : ∃ d : Int, d = ((m / pw j % 1000000000 : Nat) : Int) := ⟨_, rfl⟩
        obtain ⟨f, hf⟩ : ∃ f : Int, f = ((n / pw j % 1000000000 : Nat) : Int) := ⟨_, rfl⟩
        have hcell : w.cell? ⟨b, off + j, none⟩ = some (.int .i64 d) := hc j d (by rw [HGX.out j hlt, hd])
        have hcell' : w.cell? ⟨b', off' + j, none⟩ = some (.int .i64 f) := hc' j f (by rw [HGY.out j hlt', hf])
        have HD := Lib.hid hd
        have HF := Lib.hid hf
        clear hd hf hc hc' h3 k3
        have i1 : (j : Int) < (xs.length : Int) := by omega
        have i2 : (j : Int) < (ys.length : Int) := by omega
        rcases Int.lt_trichotomy d f with hdf | hdf | hdf
        · have HR := Lib.hid (cmpN_lt (HG.out.less HD.out HF.out hdf))
          go_wp2
          go_quiet (fail)
          go_wp2
          go_ret
          exact ⟨ret_int HR.out.symm, ⟨_, World.drewN_drewN _ _ _⟩⟩
        · have HS := Lib.hid (HG.out.step HD.out HF.out hdf)
          have n1 : ¬ d < f := by omega
          have n2 : ¬ f < d := by omega
          clear hdf
          go_wp2
          go_quiet (fail)
          go_wp2
          go_quiet (fail)
          go_wp2
          go_roundw
          case rel => exact ⟨(j : Int) - 1, rfl, by omega, by omega, ⟨_, rfl⟩, by have := HS.out; rwa [show ((j : Int) - 1 + 1).toNat = j by omega]⟩
          case measure => simp [intOf]
        · have HR := Lib.hid (cmpN_gt (HG.out.more HD.out HF.out hdf))
          have n1 : ¬ d < f := by omega
          go_wp2
          go_quiet (fail)
          go_wp2
          go_quiet (fail)
          go_wp2
          go_ret
          exact ⟨ret_int HR.out.symm, ⟨_, by rw [World.drewN_drewN, World.drewN_drewN]⟩⟩
      · have HR := Lib.hid (show cmpN m n = 0 by rw [show (x + 1).toNat = 0 by omega] at hag; rw [hag.eq, cmpN_eq])
        clear hag
        go_wp2
        go_ret
        exact ⟨ret_int HR.out.symm, ⟨_, rfl⟩⟩
  · have HR := Lib.hid (cmpN_gt (HGT.out hl))
    have hb : ((xs.length : Int) != (ys.length : Int)) = true := by simp; omega
    have hl1 : ¬ xs.length < ys.length := by omega
    go_enter Tryz.func59, Tryz.ntmps59
    go_wp2
    go_ret
    exact ⟨ret_int HR.out.symm, ⟨0, rfl⟩⟩

set_option maxHeartbeats 1000000 in
theorem spec_natCmp (u v : Value) (m n : Nat) (w : World) (hu : Sl w u (toL m)) (hv : Sl w v (toL n)) :
    Calls Tryz.prog 90 #[u, v] w fun e w' => e = .returned (.int .i64 (cmpN m n)) ∧ ∃ k, w' = w.drewN k := by
  obtain ⟨A, c, rfl, h1, h2, h3⟩ := hu
  obtain ⟨B, c', rfl, k1, k2, k3⟩ := hv
  obtain ⟨xs, hxs⟩ : ∃ xs, xs = toL m := ⟨_, rfl⟩
  obtain ⟨ys, hys⟩ : ∃ ys, ys = toL n := ⟨_, rfl⟩
  have hltl := @len_lt_lt m n
  have hgtl := @len_lt_lt n m
  have htop := @Agree.top m n
  have hgx := toL_at m
  have hgy := toL_at n
  rw [← hxs] at h1 h3 hltl hgtl htop hgx ⊢
  rw [← hys] at k1 k3 hltl hgtl htop hgy ⊢
  clear hxs hys
  have HLT := Lib.hid hltl
  have HGT := Lib.hid hgtl
  have HTOP := Lib.hid htop
  have HGX := Lib.hid hgx
  have HGY := Lib.hid hgy
  clear hltl hgtl htop hgx hgy
  have hm : xs.length ≤ 9223372036854775807 := by unfold maxLen at h2; omega
  have hm' : ys.length ≤ 9223372036854775807 := by unfold maxLen at k2; omega
  rcases Nat.lt_trichotomy xs.length ys.length with hl | hl | hl
  · have HR := Lib.hid (cmpN_lt (HLT.out hl))
    have hb : ((xs.length : Int) != (ys.length : Int)) = true := by simp; omega
    go_enter Tryz.func90, Tryz.ntmps90
    go_wp2
    go_ret
    exact ⟨ret_int HR.out.symm, ⟨0, rfl⟩⟩
  · have HA := Lib.hid (HTOP.out hl)
    have hb : ((xs.length : Int) != (ys.length : Int)) = false := by simp [hl]
    have HL := Lib.hid hl
    have hl1 : ¬ xs.length < ys.length := by omega
    have hl2 : ¬ ys.length < xs.length := by omega
    clear hl
    go_enter Tryz.func90, Tryz.ntmps90
    go_wp2
    go_loopw [5] (fun i wr => ∃ x : Int, i = .int .i64 x ∧ -1 ≤ x ∧ x < xs.length ∧ (∃ q, wr = w.drewN q) ∧ Agree m n (x + 1).toNat) (fun i _ => (intOf i + 1).toNat)
    case atStart => exact ⟨_, rfl, by omega, by omega, ⟨0, rfl⟩, by have := HA.out; rwa [show ((xs.length : Int) - 1 + 1).toNat = xs.length by omega]⟩
    case round =>
      obtain ⟨x, rfl, hx1, hx2, ⟨q, rfl⟩, hag⟩ := hrel
      by_cases hx : 0 ≤ x
      · obtain ⟨j, rfl⟩ := Int.eq_ofNat_of_zero_le hx
        rw [show ((j : Int) + 1).toNat = j + 1 by omega] at hag
        have HG := Lib.hid hag; clear hag
        have hlt : j < xs.length := by omega
        have hlt' : j < ys.length := by have := HL.out; omega
        obtain ⟨b, off, rfl, hc⟩ := h3 (by omega)
        obtain ⟨b', off', rfl, hc'⟩ := k3 (by omega)
        obtain ⟨d, hd⟩ : ∃ d : Int, d = ((m / pw j % 1000000000 : Nat) : Int) := ⟨_, rfl⟩
        obtain ⟨f, hf⟩ : ∃ f : Int, f = ((n / pw j % 1000000000 : Nat) : Int) := ⟨_, rfl⟩
        have hcell : w.cell? ⟨b, off + j, none⟩ = some (.int .i64 d) := hc j d (by rw [HGX.out j hlt, hd])
        have hcell' : w.cell? ⟨b', off' + j, none⟩ = some (.int .i64 f) := hc' j f (by rw [HGY.out j hlt', hf])
        have HD := Lib.hid hd
        have HF := Lib.hid hf
        clear hd hf hc hc' h3 k3
        have i1 : (j : Int) < (xs.length : Int) := by omega
        have i2 : (j : Int) < (ys.length : Int) := by omega
        rcases Int.lt_trichotomy d f with hdf | hdf | hdf
        · have HR := Lib.hid (cmpN_lt (HG.out.less HD.out HF.out hdf))
          go_wp2
          go_quiet (fail)
          go_wp2
          go_ret
          exact ⟨ret_int HR.out.symm, ⟨_, World.drewN_drewN _ _ _⟩⟩
        · have HS := Lib.hid (HG.out.step HD.out HF.out hdf)
          have n1 : ¬ d < f := by omega
          have n2 : ¬ f < d := by omega
          clear hdf
          go_wp2
          go_quiet (fail)
          go_wp2
          go_quiet (fail)
          go_wp2
          go_roundw
          case rel => exact ⟨(j : Int) - 1, rfl, by omega, by omega, ⟨_, rfl⟩, by have := HS.out; rwa [show ((j : Int) - 1 + 1).toNat = j by omega]⟩
          case measure => simp [intOf]
        · have HR := Lib.hid (cmpN_gt (HG.out.more HD.out HF.out hdf))
          have n1 : ¬ d < f := by omega
          go_wp2
          go_quiet (fail)
          go_wp2
          go_quiet (fail)
          go_wp2
          go_ret
          exact ⟨ret_int HR.out.symm, ⟨_, by rw [World.drewN_drewN, World.drewN_drewN]⟩⟩
      · have HR := Lib.hid (show cmpN m n = 0 by rw [show (x + 1).toNat = 0 by omega] at hag; rw [hag.eq, cmpN_eq])
        clear hag
        go_wp2
        go_ret
        exact ⟨ret_int HR.out.symm, ⟨_, rfl⟩⟩
  · have HR := Lib.hid (cmpN_gt (HGT.out hl))
    have hb : ((xs.length : Int) != (ys.length : Int)) = true := by simp; omega
    have hl1 : ¬ xs.length < ys.length := by omega
    go_enter Tryz.func90, Tryz.ntmps90
    go_wp2
    go_ret
    exact ⟨ret_int HR.out.symm, ⟨0, rfl⟩⟩


/-- What NatCmp gives. -/
def natCmpF (xs ys : List Int) : Int := if okB xs = true ∧ okB ys = true then cmpN (val xs).toNat (val ys).toNat else 0
theorem natCmpF_toL {m n : Nat} (hm : okB (toL m) = true) (hn : okB (toL n) = true) : natCmpF (toL m) (toL n) = cmpN m n := by
  unfold natCmpF
  rw [if_pos ⟨hm, hn⟩, val_toL, val_toL, Int.toNat_natCast, Int.toNat_natCast]

end Go.Proofs.YticekjagmcphbaaGreatDoor
