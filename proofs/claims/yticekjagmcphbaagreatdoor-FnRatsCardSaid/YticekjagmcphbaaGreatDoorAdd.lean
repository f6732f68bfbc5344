/-
  Contracts: adding natural numbers. Written by an AI agent.
-/
import Derived.Test.YticekjagmcphbaaGreatDoorTrim
import Derived.Test.YticekjagmcphbaaGreatDoorNatOk2
namespace Go.Proofs.YticekjagmcphbaaGreatDoor
open Go.RowKit

theorem place {P a x y : Int} (h : a + 1000000000 * x = y) : P * a + 1000000000 * P * x = P * y := by
  rw [← h, Int.mul_add, Int.mul_left_comm, Int.mul_assoc]
/-- A list of limbs that is as long as its value asks is the one of its value. -/
theorem canon {s : List Int} {N : Nat} (hl : Limbs s) (hv : val s = (N : Int)) (hn : s = [] ∨ pw (s.length - 1) ≤ N) : s = toL N := by
  have h : s = toL (val s).toNat := by
    symm
    apply toL_of_limbs hl
    rcases hn with rfl | hn
    · simp
    · intro hlast
      have h0 : s ≠ [] := by rintro rfl; simp at hlast
      have hs : s = s.dropLast ++ [0] := by
        rw [List.getLast?_eq_some_getLast h0] at hlast
        have := List.dropLast_concat_getLast h0
        rw [Option.some.inj hlast] at this
        exact this.symm
      have hl2 : Limbs s.dropLast := fun d hd => hl d (List.dropLast_subset s hd)
      have h1 := val_lt hl2
      have h2 : val s = val s.dropLast := by
        conv => lhs; rw [hs]
        rw [val_snoc]
        omega
      rw [List.length_dropLast] at h1
      omega
  rw [hv, Int.toNat_natCast] at h
  exact h

/-- What holds at the head of round k of the addition of m and n: the limbs so far are s, the carry is c. -/
def AddInv (m n k : Nat) (s : List Int) (c : Int) : Prop :=
  Limbs s ∧ s.length = k ∧ 0 ≤ c ∧ c ≤ 1 ∧ val s + (pw k : Int) * (c + ((m / pw k : Nat) : Int) + ((n / pw k : Nat) : Int)) = ((m + n : Nat) : Int) ∧ (k = 0 ∨ pw (k - 1) ≤ m + n)
theorem AddInv.start (m n : Nat) : AddInv m n 0 [] 0 := by
  refine ⟨Limbs.nil, rfl, by omega, by omega, ?_, Or.inl rfl⟩
  simp [val, pw_zero]
theorem AddInv.carry {m n k : Nat} {s : List Int} {c : Int} (h : AddInv m n k s c) : 0 ≤ c ∧ c ≤ 1 := ⟨h.2.2.1, h.2.2.2.1⟩
theorem AddInv.len {m n k B : Nat} {s : List Int} {c : Int} (h : AddInv m n k s c) (hm : m < pw B) (hn : n < pw B) : k ≤ B + 1 := by
  rcases h.2.2.2.2.2 with rfl | h6
  · omega
  · have h1 : m + n < pw (B + 1) := by rw [pw_succ]; omega
    rcases Nat.lt_or_ge k (B + 2) with h2 | h2
    · omega
    · have := pw_le (show B + 1 ≤ k - 1 by omega)
      omega
theorem cast_pw_succ (k : Nat) : ((pw (k + 1) : Nat) : Int) = 1000000000 * ((pw k : Nat) : Int) := by rw [pw_succ, Int.natCast_mul]; rfl
theorem digit_of {m k : Nat} : ((m / pw k : Nat) : Int) = ((m / pw k % 1000000000 : Nat) : Int) + 1000000000 * ((m / pw (k + 1) : Nat) : Int) := by
  rw [show m / pw (k + 1) = m / pw k / 1000000000 by rw [pw_succ, Nat.mul_comm, Nat.div_div_eq_div_mul]]
  omega
theorem AddInv.step {m n k : Nat} {s : List Int} {c da db : Int} (h : AddInv m n k s c) (ha : da = ((m / pw k % 1000000000 : Nat) : Int)) (hb : db = ((n / pw k % 1000000000 : Nat) : Int))
    (hgo : k < (toL m).length ∨ k < (toL n).length ∨ 0 < c) : AddInv m n (k + 1) (s ++ [(c + da + db) % 1000000000]) ((c + da + db) / 1000000000) := by
  obtain ⟨h1, h2, h3, h4, h5, h6⟩ := h
  have hda : 0 ≤ da ∧ da < 1000000000 := by omega
  have hdb : 0 ≤ db ∧ db < 1000000000 := by omega
  have em := @digit_of m k
  have en := @digit_of n k
  rw [← ha] at em
  rw [← hb] at en
  refine ⟨h1.append (Limbs.cons (by omega) (by omega) Limbs.nil), by simp [h2], by omega, by omega, ?_, Or.inr ?_⟩
  · rw [val_snoc, h2, cast_pw_succ, Int.add_assoc, ← h5]
    congr 1
    exact place (by omega)
  · rw [Nat.add_sub_cancel]
    rcases hgo with hg | hg | hg
    · have h0 : 0 < m := by
        rcases Nat.eq_zero_or_pos m with h0 | h0
        · subst h0; rw [toL_zero] at hg; simp at hg
        · exact h0
      have := toL_len_ge h0
      have := pw_le (show k ≤ (toL m).length - 1 by omega)
      omega
    · have h0 : 0 < n := by
        rcases Nat.eq_zero_or_pos n with h0 | h0
        · subst h0; rw [toL_zero] at hg; simp at hg
        · exact h0
      have := toL_len_ge h0
      have := pw_le (show k ≤ (toL n).length - 1 by omega)
      omega
    · have hv := val_nonneg h1
      have hc : (pw k : Int) ≤ (pw k : Int) * (c + ((m / pw k : Nat) : Int) + ((n / pw k : Nat) : Int)) := by
        have hp := pw_pos k
        have h7 : 1 ≤ c + ((m / pw k : Nat) : Int) + ((n / pw k : Nat) : Int) := by
          have := Int.natCast_nonneg (m / pw k)
          have := Int.natCast_nonneg (n / pw k)
          omega
        have := Int.mul_le_mul_of_nonneg_left h7 (Int.natCast_nonneg (pw k))
        rwa [Int.mul_one] at this
      omega
theorem digit_past {m k : Nat} (h : ¬ k < (toL m).length) : m / pw k = 0 := Nat.div_eq_of_lt (Nat.lt_of_lt_of_le lt_of_toL_len (pw_le (by omega)))
theorem AddInv.done {m n k : Nat} {s : List Int} {c : Int} (h : AddInv m n k s c) (hm : ¬ k < (toL m).length) (hn : ¬ k < (toL n).length) (hc : c = 0) : s = toL (m + n) := by
  obtain ⟨h1, h2, h3, h4, h5, h6⟩ := h
  subst hc
  rw [digit_past hm, digit_past hn] at h5
  refine canon h1 (by simpa using h5) ?_
  rcases h6 with rfl | h6
  · left
    exact List.eq_nil_of_length_eq_zero h2
  · right
    rwa [h2]


set_option maxHeartbeats 2000000 in
theorem impl_natAdd (u v : Value) (m n : Nat) (w : World) (hu : Sl w u (toL m)) (hv : Sl w v (toL n)) (hm : m < pw 200) (hn : n < pw 200) :
    Calls Tryz.prog 58 #[u, v] w (RetOwn 3 (toL (m + n)) w) := by
  obtain ⟨A, c, rfl, h1, h2, h3⟩ := hu
  obtain ⟨B, c', rfl, k1, k2, k3⟩ := hv
  have hl1 : (toL m).length ≤ 200 := toL_len_lt hm
  have hl2 : (toL n).length ≤ 200 := toL_len_lt hn
  have HM := Lib.hid hm
  have HN := Lib.hid hn
  clear hm hn
  have hgx := toL_at m
  have hgy := toL_at n
  have hst := @AddInv.step m n
  have hdn := @AddInv.done m n
  have hpx := @digit_past m
  have hpy := @digit_past n
  generalize toL m = xs at *
  generalize toL n = ys at *
  have HGX := Lib.hid hgx
  have HGY := Lib.hid hgy
  have HST : ∀ k s c da db, Hid (AddInv m n k s c → da = ((m / pw k % 1000000000 : Nat) : Int) → db = ((n / pw k % 1000000000 : Nat) : Int) → (k < xs.length ∨ k < ys.length ∨ 0 < c) → AddInv m n (k + 1) (s ++ [(c + da + db) % 1000000000]) ((c + da + db) / 1000000000)) := fun k s c da db => Lib.hid (@hst k s c da db)
  have HDN : ∀ k s c, Hid (AddInv m n k s c → ¬ k < xs.length → ¬ k < ys.length → c = 0 → s = toL (m + n)) := fun k s c => Lib.hid (@hdn k s c)
  have HPX : ∀ k, Hid (¬ k < xs.length → m / pw k = 0) := fun k => Lib.hid (@hpx k)
  have HPY : ∀ k, Hid (¬ k < ys.length → n / pw k = 0) := fun k => Lib.hid (@hpy k)
  clear hgx hgy hst hdn hpx hpy
  go_enter Tryz.func58, Tryz.ntmps58
  go_wp2
  go_loopw [5, 6, 7] (fun l c i wr => ∃ (k : Nat) (s : List Int) (y : Int), i = .int .i64 k ∧ c = .int .i64 y ∧ k ≤ 201 ∧ AddInv m n k s y ∧ Own wr w.heap.size 3 l s ∧ Below w.heap.size w wr) (fun _ _ i _ => 300 - (intOf i).toNat)
  case atStart => exact ⟨0, [], 0, rfl, rfl, by omega, AddInv.start m n, own_empty w (Nat.le_refl _), (by repeat' (first | (with_reducible exact Below.refl _ _) | (with_reducible refine Below.alloc ?_ ?_ _) | (with_reducible refine Below.setCell ?_ ?_ _) | (with_reducible refine below_drewN ?_ _) | (with_reducible refine Below.drew ?_) | (with_reducible refine below_step (by assumption) ?_ ?_) | omega | (simp; done) | (simp; omega)))⟩
  case round =>
    obtain ⟨k, s, y, rfl, rfl, hk, hinv, hown, hb⟩ := hrel
    have hlen : s.length = k := hinv.2.1
    have hs := hb.size
    obtain ⟨y0, y1⟩ := hinv.carry
    have HI := Lib.hid hinv
    have HLN := Lib.hid hlen
    have hsl : s.length ≤ 300 := by omega
    clear hinv hlen
    obtain ⟨da, hda⟩ : ∃ d : Int, d = ((m / pw k % 1000000000 : Nat) : Int) := ⟨_, rfl⟩
    obtain ⟨db, hdb⟩ : ∃ d : Int, d = ((n / pw k % 1000000000 : Nat) : Int) := ⟨_, rfl⟩
    have da0 : 0 ≤ da := by omega
    have da1 : da < 1000000000 := by omega
    have db0 : 0 ≤ db := by omega
    have db1 : db < 1000000000 := by omega
    have HDA := Lib.hid hda
    have HDB := Lib.hid hdb
    clear hda hdb
    by_cases hx : k < xs.length
    · obtain ⟨b, off, rfl, hc⟩ := h3 (by omega)
      have hcw := hc k da (by rw [HGX.out k hx, HDA.out])
      have hcell : wr.cell? ⟨b, off + k, none⟩ = some (.int .i64 da) := (hb.cell (World.block_lt_of_cell? w _ hcw)).trans hcw
      clear hc hcw h3
      have HNX := Lib.hid ((HST k s y da db).out HI.out HDA.out HDB.out (Or.inl hx))
      by_cases hy : k < ys.length
      · obtain ⟨b', off', rfl, hc'⟩ := k3 (by omega)
        have hcw' := hc' k db (by rw [HGY.out k hy, HDB.out])
        have hcell' : wr.cell? ⟨b', off' + k, none⟩ = some (.int .i64 db) := (hb.cell (World.block_lt_of_cell? w _ hcw')).trans hcw'
        clear hc' hcw' k3
        go_wp2_with (at_builtin; refine wpList_app1 _ rfl _ _ rfl Tryz.intP hown rfl rfl (by omega) hs ?_; intro v' w1 hown' hb' hg'; clear hown hg')
        go_roundw
        case rel => exact ⟨k + 1, _, _, by go_num, rfl, by have := HNX.out.len HM.out HN.out; omega, HNX.out, hown', hb.trans hb'⟩
        case measure => simp [intOf]; omega
      · have hz : db = 0 := by have := (HPY k).out hy; rw [HDB.out, this]; rfl
        have HZ := Lib.hid (show y + da + db = y + da by omega)
        clear hz
        go_wp2_with (at_builtin; refine wpList_app1 _ rfl _ _ rfl Tryz.intP hown rfl rfl (by omega) hs ?_; intro v' w1 hown' hb' hg'; clear hown hg')
        go_roundw
        case rel => exact ⟨k + 1, _, _, by go_num, rfl, by have := HNX.out.len HM.out HN.out; omega, by have := HNX.out; rwa [HZ.out] at this, hown', hb.trans hb'⟩
        case measure => simp [intOf]; omega
    · have hz : da = 0 := by have := (HPX k).out hx; rw [HDA.out, this]; rfl
      by_cases hy : k < ys.length
      · obtain ⟨b', off', rfl, hc'⟩ := k3 (by omega)
        have hcw' := hc' k db (by rw [HGY.out k hy, HDB.out])
        have hcell' : wr.cell? ⟨b', off' + k, none⟩ = some (.int .i64 db) := (hb.cell (World.block_lt_of_cell? w _ hcw')).trans hcw'
        have HNX := Lib.hid ((HST k s y da db).out HI.out HDA.out HDB.out (Or.inr (Or.inl hy)))
        have HZ := Lib.hid (show y + da + db = y + db by omega)
        clear hc' hcw' k3 hz
        go_wp2_with (at_builtin; refine wpList_app1 _ rfl _ _ rfl Tryz.intP hown rfl rfl (by omega) hs ?_; intro v' w1 hown' hb' hg'; clear hown hg')
        go_roundw
        case rel => exact ⟨k + 1, _, _, by go_num, rfl, by have := HNX.out.len HM.out HN.out; omega, by have := HNX.out; rwa [HZ.out] at this, hown', hb.trans hb'⟩
        case measure => simp [intOf]; omega
      · have hz' : db = 0 := by have := (HPY k).out hy; rw [HDB.out, this]; rfl
        by_cases hc0 : 0 < y
        · have HNX := Lib.hid ((HST k s y da db).out HI.out HDA.out HDB.out (Or.inr (Or.inr hc0)))
          have HZ := Lib.hid (show y + da + db = y by omega)
          clear hz hz'
          go_wp2_with (at_builtin; refine wpList_app1 _ rfl _ _ rfl Tryz.intP hown rfl rfl (by omega) hs ?_; intro v' w1 hown' hb' hg'; clear hown hg')
          go_roundw
          case rel => exact ⟨k + 1, _, _, by go_num, rfl, by have := HNX.out.len HM.out HN.out; omega, by have := HNX.out; rwa [HZ.out] at this, hown', hb.trans hb'⟩
          case measure => simp [intOf]; omega
        · have HE := Lib.hid ((HDN k s y).out HI.out hx hy (by omega))
          have HO := Lib.hid hown
          clear hown hz hz'
          go_wp2
          go_ret
          exact ⟨_, rfl, by have := HO.out; rwa [HE.out] at this, hb⟩

end Go.Proofs.YticekjagmcphbaaGreatDoor
