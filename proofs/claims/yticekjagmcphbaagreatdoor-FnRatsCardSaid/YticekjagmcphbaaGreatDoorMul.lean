/-
  Contracts: multiplying natural numbers. Written by an AI agent.
-/
import Derived.Test.YticekjagmcphbaaGreatDoorSub
import Derived.Deep.QuietTactic
import Derived.BigQuiet
import Derived.IntWalk
namespace Go.Proofs.YticekjagmcphbaaGreatDoor
open Go.RowKit

/-- The limb i of m. -/
def lim (m i : Nat) : Nat := m / pw i % 1000000000
theorem mod_pw_succ (m i : Nat) : m % pw (i + 1) = m % pw i + pw i * lim m i := by
  rw [pw_succ, Nat.mul_comm 1000000000 (pw i), Nat.mod_mul]
  rfl
/-- What the product is worth at limb i of m, limb j of n. -/
def mulV (m n i j : Nat) : Nat := (m % pw i) * n + pw i * (lim m i * (n % pw j))
theorem mulV_zero (m n i : Nat) : mulV m n i 0 = (m % pw i) * n := by
  unfold mulV
  rw [pw_zero, Nat.mod_one, Nat.mul_zero, Nat.mul_zero, Nat.add_zero]
theorem mulV_step (m n i j : Nat) : mulV m n i (j + 1) = mulV m n i j + pw (i + j) * (lim m i * lim n j) := by
  unfold mulV
  rw [mod_pw_succ n j, Nat.mul_add, Nat.mul_add, ← Nat.add_assoc, pw_add]
  congr 1
  rw [Nat.mul_assoc, Nat.mul_left_comm (lim m i)]
theorem mulV_last {m n i j : Nat} (h : n < pw j) : mulV m n i j = (m % pw (i + 1)) * n := by
  unfold mulV
  rw [Nat.mod_eq_of_lt h, mod_pw_succ m i, Nat.add_mul, Nat.mul_assoc]
theorem lim_lt (m i : Nat) : lim m i < 1000000000 := Nat.mod_lt _ (by omega)
theorem mul_bound {a b : Int} (ha : 0 ≤ a) (ha' : a < 1000000000) (hb : 0 ≤ b) (hb' : b < 1000000000) : 0 ≤ a * b ∧ a * b ≤ 999999998000000001 := by
  refine ⟨Int.mul_nonneg ha hb, ?_⟩
  have := Int.mul_le_mul (show a ≤ 999999999 by omega) (show b ≤ 999999999 by omega) hb (by omega)
  omega

/-- The inner loop: limb i of m, up to limb j of n; the row P, the carry c. -/
def MulIn (m n lb i j : Nat) (P : List Int) (c : Int) : Prop := Limbs P ∧ 0 ≤ c ∧ c < 1000000000 ∧ ZeroFrom P (i + lb) ∧ val P + (pw (i + j) : Int) * c = (mulV m n i j : Int)
/-- The outer loop. -/
def MulOut (m n lb i : Nat) (P : List Int) : Prop := Limbs P ∧ ZeroFrom P (i + lb) ∧ val P = ((m % pw i * n : Nat) : Int)
theorem MulOut.start (m n lb L : Nat) : MulOut m n lb 0 (List.replicate L 0) := by
  refine ⟨Limbs.replicate L, fun i d _ hd => ?_, ?_⟩
  · rw [List.getElem?_replicate] at hd
    split at hd
    · exact (Option.some.inj hd).symm
    · cases hd
  · rw [val_replicate, pw_zero, Nat.mod_one, Nat.zero_mul]
    rfl
theorem MulOut.enter {m n lb i : Nat} {P : List Int} (h : MulOut m n lb i P) : MulIn m n lb i 0 P 0 := by
  refine ⟨h.1, by omega, by omega, h.2.1, ?_⟩
  rw [mulV_zero, h.2.2]
  simp
theorem ZeroFrom.set {P : List Int} {k j : Nat} {d : Int} (h : ZeroFrom P k) (hj : j < k) : ZeroFrom (P.set j d) k := by
  intro i e hi he
  rw [List.getElem?_set_ne (by omega)] at he
  exact h i e hi he
theorem ZeroFrom.next {P : List Int} {k : Nat} {d : Int} (h : ZeroFrom P k) : ZeroFrom (P.set k d) (k + 1) := by
  intro i e hi he
  rw [List.getElem?_set_ne (by omega)] at he
  exact h i e (by omega) he
theorem MulIn.step {m n lb i j : Nat} {P : List Int} {c p a b : Int} (h : MulIn m n lb i j P c) (hp : P[i + j]? = some p) (ha : a = (lim m i : Int)) (hb : b = (lim n j : Int)) (hj : j < lb) :
    MulIn m n lb i (j + 1) (P.set (i + j) ((p + a * b + c) % 1000000000)) ((p + a * b + c) / 1000000000) := by
  obtain ⟨h1, h2, h3, h4, h5⟩ := h
  obtain ⟨p0, p1⟩ := h1.get hp
  have ha1 := lim_lt m i
  have hb1 := lim_lt n j
  obtain ⟨q0, q1⟩ := mul_bound (a := a) (b := b) (by omega) (by omega) (by omega) (by omega)
  refine ⟨h1.set (by omega) (by omega), by omega, by omega, h4.set (by omega), ?_⟩
  have e1 : (p + a * b + c) % 1000000000 - p + 1000000000 * ((p + a * b + c) / 1000000000) = c + a * b := by omega
  have e2 := place (P := (pw (i + j) : Int)) e1
  rw [Int.mul_add (pw (i + j) : Int) c] at e2
  rw [val_set hp, mulV_step, ← Nat.add_assoc, cast_pw_succ, Int.natCast_add, Int.natCast_mul, Int.natCast_mul, ← h5, ← ha, ← hb]
  generalize (pw (i + j) : Int) * ((p + a * b + c) % 1000000000 - p) = X at *
  generalize 1000000000 * (pw (i + j) : Int) * ((p + a * b + c) / 1000000000) = Y at *
  omega
theorem MulIn.step' {m n lb i j : Nat} {P : List Int} {c p a b t : Int} (h : MulIn m n lb i j P c) (hp : P[i + j]? = some p) (ha : a = (lim m i : Int)) (hb : b = (lim n j : Int)) (hj : j < lb) (ht : t = p + a * b + c) :
    MulIn m n lb i (j + 1) (P.set (i + j) (t % 1000000000)) (t / 1000000000) := by
  subst ht
  exact h.step hp ha hb hj
theorem MulIn.close {m n lb i : Nat} {P : List Int} {c : Int} (h : MulIn m n lb i lb P c) (hn : n < pw lb) (hz : P[i + lb]? = some 0) : MulOut m n lb (i + 1) (P.set (i + lb) c) := by
  obtain ⟨h1, h2, h3, h4, h5⟩ := h
  refine ⟨h1.set h2 h3, ?_, ?_⟩
  · have := h4.next (d := c)
    rwa [show i + lb + 1 = i + 1 + lb by omega] at this
  · rw [val_set hz, Int.sub_zero, h5, mulV_last hn]
theorem MulOut.done {m n lb : Nat} {P : List Int} {i : Nat} (h : MulOut m n lb i P) (hm : m < pw i) : Limbs P ∧ (val P).toNat = m * n := by
  refine ⟨h.1, ?_⟩
  rw [h.2.2, Nat.mod_eq_of_lt hm, Int.toNat_natCast]
theorem lim_get {m i : Nat} (h : i < (toL m).length) : (toL m)[i]? = some (lim m i : Int) := toL_get h
theorem ZeroFrom.zero_at {P : List Int} {k i : Nat} (h : ZeroFrom P k) (hi : k ≤ i) (hl : i < P.length) : P[i]? = some 0 := by
  have h1 : P[i]? = some P[i] := List.getElem?_eq_getElem hl
  rw [h1, h i P[i] hi h1]

set_option maxHeartbeats 4000000 in
theorem impl_natMul (u v : Value) (m n : Nat) (w : World) (hu : Sl w u (toL m)) (hv : Sl w v (toL n)) (hm : m < pw 200) (hn : n < pw 200) :
    Calls Tryz.prog 57 #[u, v] w (RetOwn 3 (toL (m * n)) w) := by
  obtain ⟨A, c, rfl, h1, h2, h3⟩ := hu
  obtain ⟨B, c', rfl, k1, k2, k3⟩ := hv
  have hl1 : (toL m).length ≤ 200 := toL_len_lt hm
  have hl2 : (toL n).length ≤ 200 := toL_len_lt hn
  clear hm hn
  have hgx := @lim_get m
  have hgy := @lim_get n
  have hlx := @lt_of_toL_len m
  have hly := @lt_of_toL_len n
  have hzx := @toL_nil m
  have hzy := @toL_nil n
  generalize toL m = xs at *
  generalize toL n = ys at *
  have HGX : ∀ i, Hid (i < xs.length → xs[i]? = some (lim m i : Int)) := fun i => Lib.hid (@hgx i)
  have HGY : ∀ i, Hid (i < ys.length → ys[i]? = some (lim n i : Int)) := fun i => Lib.hid (@hgy i)
  have HLX := Lib.hid hlx
  have HLY := Lib.hid hly
  have HZX := Lib.hid hzx
  have HZY := Lib.hid hzy
  clear hgx hgy hlx hly hzx hzy
  by_cases hx0 : xs.length = 0
  · have hb : ((xs.length : Int) == 0) = true := by simpa using hx0
    have HR := Lib.hid (show toL (m * n) = [] by rw [HZX.out.1 (List.eq_nil_of_length_eq_zero hx0), Nat.zero_mul, toL_zero])
    clear hx0
    go_enter Tryz.func57, Tryz.ntmps57
    go_wp2
    go_ret
    exact ⟨_, rfl, by rw [HR.out]; exact Own.nil _ _ _, Below.refl _ _⟩
  by_cases hy0 : ys.length = 0
  · have hb : ((ys.length : Int) == 0) = true := by simpa using hy0
    have hb' : ((xs.length : Int) == 0) = false := by simpa using hx0
    have HR := Lib.hid (show toL (m * n) = [] by rw [HZY.out.1 (List.eq_nil_of_length_eq_zero hy0), Nat.mul_zero, toL_zero])
    clear hy0
    go_enter Tryz.func57, Tryz.ntmps57
    go_wp2
    go_ret
    exact ⟨_, rfl, by rw [HR.out]; exact Own.nil _ _ _, Below.refl _ _⟩
  have hb : ((ys.length : Int) == 0) = false := by simpa using hy0
  have hb' : ((xs.length : Int) == 0) = false := by simpa using hx0
  go_enter Tryz.func57, Tryz.ntmps57
  go_wp2_with (at_make; refine wpList_mk _ rfl _ rfl Tryz.intP (xs.length + ys.length) rfl (by simp) (by omega) ?_; intro w1 hrow0 hb0)
  go_loopw [25] (fun i wr => ∃ (k : Nat) (P : List Int), i = .int .i64 k ∧ k ≤ xs.length ∧ MulOut m n ys.length k P ∧ Row wr w.heap.size 3 w.heap.size (xs.length + ys.length) P ∧ Below w.heap.size w wr) (fun i _ => xs.length - (intOf i).toNat)
  case atStart => exact ⟨0, _, rfl, by omega, MulOut.start m n ys.length (xs.length + ys.length), hrow0, hb0⟩
  case round =>
    obtain ⟨i, P, rfl, hi, hout, hrow, hbl⟩ := hrel
    clear hrow0 hb0
    by_cases hx : i < xs.length
    · obtain ⟨a, ha⟩ : ∃ a : Int, a = (lim m i : Int) := ⟨_, rfl⟩
      have a0 : 0 ≤ a := by omega
      have a1 : a < 1000000000 := by have := lim_lt m i; omega
      have HA := Lib.hid ha
      clear ha
      obtain ⟨b, off, rfl, hc⟩ := h3 (by omega)
      have hcw := hc i a (by rw [(HGX i).out hx, HA.out])
      clear hc h3
      obtain ⟨b', off', rfl, hc'⟩ := k3 (by omega)
      have HC' := Lib.hid hc'
      have HCW := Lib.hid hcw
      clear hc' k3 hcw
      have HIN := Lib.hid hout.enter
      have HROW := Lib.hid hrow
      clear hout hrow
      obtain ⟨wo, rfl⟩ : ∃ wo : World, wo = wr := ⟨_, rfl⟩
      go_wp2
      go_loopw [7, 30] (fun c j wr => ∃ (k : Nat) (y : Int) (P : List Int), j = .int .i64 k ∧ c = .int .i64 y ∧ k ≤ ys.length ∧ MulIn m n ys.length i k P y ∧ Row wr w.heap.size 3 w.heap.size (xs.length + ys.length) P ∧ Below w.heap.size w wr) (fun _ j _ => ys.length - (intOf j).toNat)
      case atStart => exact ⟨0, 0, P, rfl, rfl, by omega, HIN.out, HROW.out, hbl⟩
      case round =>
        obtain ⟨j, y, P, rfl, rfl, hj, hin, hrow, hbl⟩ := hrel
        obtain ⟨y0, y1⟩ : 0 ≤ y ∧ y < 1000000000 := ⟨hin.2.1, hin.2.2.1⟩
        by_cases hy : j < ys.length
        · obtain ⟨b2, hb2⟩ : ∃ a : Int, a = (lim n j : Int) := ⟨_, rfl⟩
          have b0 : 0 ≤ b2 := by omega
          have b1 : b2 < 1000000000 := by have := lim_lt n j; omega
          have HB2 := Lib.hid hb2
          clear hb2
          have hcw' := HC'.out j b2 (by rw [(HGY j).out hy, HB2.out])
          have hcellA : wr.cell? ⟨b, off + i, none⟩ = some (.int .i64 a) := (hbl.cell (World.block_lt_of_cell? w _ HCW.out)).trans HCW.out
          have hcellB : wr.cell? ⟨b', off' + j, none⟩ = some (.int .i64 b2) := (hbl.cell (World.block_lt_of_cell? w _ hcw')).trans hcw'
          have hpl : P.length = xs.length + ys.length := hrow.len
          obtain ⟨p, hp⟩ : ∃ p, P[i + j]? = some p := ⟨_, List.getElem?_eq_getElem (by omega)⟩
          have hcellP := hrow.cell hp
          obtain ⟨p0, p1⟩ := hin.1.get hp
          have hfz := hrow.frozen (i + j)
          obtain ⟨q0, q1⟩ := mul_bound a0 a1 b0 b1
          have HST := Lib.hid (hin.step' (t := y + (p + a * b2)) hp HA.out HB2.out hy (by omega))
          have HR := Lib.hid hrow
          clear hin hrow hcw' hp
          have hw1 : IntKind.i64.wrap ((i : Int) + (j : Int)) = (i : Int) + (j : Int) := IntWalk.i64_in _ (by omega)
          have hw2 : (0 : Int) ≤ (i : Int) + (j : Int) := by omega
          have hw3 : ((i : Int) + (j : Int)).toNat = i + j := by omega
          have hw4 : IntKind.i64.wrap (a * b2) = a * b2 := IntWalk.i64_in _ (by omega)
          have hw5 : IntKind.i64.wrap (p + a * b2) = p + a * b2 := IntWalk.i64_in _ (by omega)
          have hw6 : IntKind.i64.wrap (y + (p + a * b2)) = y + (p + a * b2) := IntWalk.i64_in _ (by omega)
          have hw7 : (i : Int) + (j : Int) < ((xs.length + ys.length : Nat) : Int) := by omega
          have hw8 : (i : Int) + (j : Int) < (xs.length : Int) + (ys.length : Int) := by omega
          go_wp2
          go_quiet (fail)
          clear hw1 hw2 hw3 hw4 hw5 hw6 hw7 hw8
          go_wp2
          go_roundw
          case rel => exact ⟨j + 1, _, _, by go_num, rfl, by omega, HST.out, (HR.out.drewN nq).set_ (i + j) _, (below_drewN hbl nq).setCell (Nat.le_refl _) _⟩
          case measure => simp [intOf]; omega
        · have hjy : j = ys.length := by omega
          subst hjy
          have hpl : P.length = xs.length + ys.length := hrow.len
          have hz := hin.2.2.2.1.zero_at (Nat.le_refl _) (by omega)
          have hcl := hin.close HLY.out hz
          have hcellP := hrow.cell hz
          have hfz := hrow.frozen (i + ys.length)
          have HCL := Lib.hid hcl
          have HR := Lib.hid hrow
          clear hin hrow hz hcl
          go_wp2
          go_roundw
          case rel => exact ⟨i + 1, _, by go_num, by omega, HCL.out, HR.out.set_ (i + ys.length) _, hbl.setCell (Nat.le_refl _) _⟩
          case measure => simp [intOf]; omega
    · have hix : i = xs.length := by omega
      subst hix
      have hd := hout.done HLX.out
      have HD := Lib.hid hd
      have hpl := hrow.len
      have HPL := Lib.hid hpl
      have HO := Lib.hid hrow
      clear hout hd hpl hrow
      go_wp2_with fail
      refine (impl_natTrim_own _ _ _ w.heap.size P _ HPL.out (by have := HO.out.own HPL.out; rwa [HPL.out] at this) HD.out.1).mono ?_
      rintro e w2 ⟨r2, rfl, o2, rfl⟩
      rw [HD.out.2] at o2
      go_wp2
      go_ret
      exact ⟨_, rfl, o2, hbl⟩
set_option maxHeartbeats 4000000 in
theorem spec_natMul (u v : Value) (m n : Nat) (w : World) (hu : Sl w u (toL m)) (hv : Sl w v (toL n)) (hm : m < pw 200) (hn : n < pw 200) :
    Calls Tryz.prog 93 #[u, v] w (RetOwn 3 (toL (m * n)) w) := by
  obtain ⟨A, c, rfl, h1, h2, h3⟩ := hu
  obtain ⟨B, c', rfl, k1, k2, k3⟩ := hv
  have hl1 : (toL m).length ≤ 200 := toL_len_lt hm
  have hl2 : (toL n).length ≤ 200 := toL_len_lt hn
  clear hm hn
  have hgx := @lim_get m
  have hgy := @lim_get n
  have hlx := @lt_of_toL_len m
  have hly := @lt_of_toL_len n
  have hzx := @toL_nil m
  have hzy := @toL_nil n
  generalize toL m = xs at *
  generalize toL n = ys at *
  have HGX : ∀ i, Hid (i < xs.length → xs[i]? = some (lim m i : Int)) := fun i => Lib.hid (@hgx i)
  have HGY : ∀ i, Hid (i < ys.length → ys[i]? = some (lim n i : Int)) := fun i => Lib.hid (@hgy i)
  have HLX := Lib.hid hlx
  have HLY := Lib.hid hly
  have HZX := Lib.hid hzx
  have HZY := Lib.hid hzy
  clear hgx hgy hlx hly hzx hzy
  by_cases hx0 : xs.length = 0
  · have hb : ((xs.length : Int) == 0) = true := by simpa using hx0
    have HR := Lib.hid (show toL (m * n) = [] by rw [HZX.out.1 (List.eq_nil_of_length_eq_zero hx0), Nat.zero_mul, toL_zero])
    clear hx0
    go_enter Tryz.func93, Tryz.ntmps93
    go_wp2
    go_ret
    exact ⟨_, rfl, by rw [HR.out]; exact Own.nil _ _ _, Below.refl _ _⟩
  by_cases hy0 : ys.length = 0
  · have hb : ((ys.length : Int) == 0) = true := by simpa using hy0
    have hb' : ((xs.length : Int) == 0) = false := by simpa using hx0
    have HR := Lib.hid (show toL (m * n) = [] by rw [HZY.out.1 (List.eq_nil_of_length_eq_zero hy0), Nat.mul_zero, toL_zero])
    clear hy0
    go_enter Tryz.func93, Tryz.ntmps93
    go_wp2
    go_ret
    exact ⟨_, rfl, by rw [HR.out]; exact Own.nil _ _ _, Below.refl _ _⟩
  have hb : ((ys.length : Int) == 0) = false := by simpa using hy0
  have hb' : ((xs.length : Int) == 0) = false := by simpa using hx0
  go_enter Tryz.func93, Tryz.ntmps93
  go_wp2_with (at_make; refine wpList_mk _ rfl _ rfl Tryz.intP (xs.length + ys.length) rfl (by simp) (by omega) ?_; intro w1 hrow0 hb0)
  go_loopw [28] (fun i wr => ∃ (k : Nat) (P : List Int), i = .int .i64 k ∧ k ≤ xs.length ∧ MulOut m n ys.length k P ∧ Row wr w.heap.size 3 w.heap.size (xs.length + ys.length) P ∧ Below w.heap.size w wr) (fun i _ => xs.length - (intOf i).toNat)
  case atStart => exact ⟨0, _, rfl, by omega, MulOut.start m n ys.length (xs.length + ys.length), hrow0, hb0⟩
  case round =>
    obtain ⟨i, P, rfl, hi, hout, hrow, hbl⟩ := hrel
    clear hrow0 hb0
    by_cases hx : i < xs.length
    · obtain ⟨a, ha⟩ : ∃ a : Int, a = (lim m i : Int) := ⟨_, rfl⟩
      have a0 : 0 ≤ a := by omega
      have a1 : a < 1000000000 := by have := lim_lt m i; omega
      have HA := Lib.hid ha
      clear ha
      obtain ⟨b, off, rfl, hc⟩ := h3 (by omega)
      have hcw := hc i a (by rw [(HGX i).out hx, HA.out])
      clear hc h3
      obtain ⟨b', off', rfl, hc'⟩ := k3 (by omega)
      have HC' := Lib.hid hc'
      have HCW := Lib.hid hcw
      have hcellO : wr.cell? ⟨b, off + i, none⟩ = some (.int .i64 a) := (hbl.cell (World.block_lt_of_cell? w _ HCW.out)).trans HCW.out
      clear hc' k3 hcw
      have HIN := Lib.hid hout.enter
      have HROW := Lib.hid hrow
      clear hout hrow
      obtain ⟨wo, rfl⟩ : ∃ wo : World, wo = wr := ⟨_, rfl⟩
      go_wp2
      go_loopw [8, 35] (fun c j wr => ∃ (k : Nat) (y : Int) (P : List Int), j = .int .i64 k ∧ c = .int .i64 y ∧ k ≤ ys.length ∧ MulIn m n ys.length i k P y ∧ Row wr w.heap.size 3 w.heap.size (xs.length + ys.length) P ∧ Below w.heap.size w wr) (fun _ j _ => ys.length - (intOf j).toNat)
      case atStart => exact ⟨0, 0, P, rfl, rfl, by omega, HIN.out, HROW.out, hbl⟩
      case round =>
        obtain ⟨j, y, P, rfl, rfl, hj, hin, hrow, hbl⟩ := hrel
        obtain ⟨y0, y1⟩ : 0 ≤ y ∧ y < 1000000000 := ⟨hin.2.1, hin.2.2.1⟩
        by_cases hy : j < ys.length
        · obtain ⟨b2, hb2⟩ : ∃ a : Int, a = (lim n j : Int) := ⟨_, rfl⟩
          have b0 : 0 ≤ b2 := by omega
          have b1 : b2 < 1000000000 := by have := lim_lt n j; omega
          have HB2 := Lib.hid hb2
          clear hb2
          have hcw' := HC'.out j b2 (by rw [(HGY j).out hy, HB2.out])
          have hcellA : wr.cell? ⟨b, off + i, none⟩ = some (.int .i64 a) := (hbl.cell (World.block_lt_of_cell? w _ HCW.out)).trans HCW.out
          have hcellB : wr.cell? ⟨b', off' + j, none⟩ = some (.int .i64 b2) := (hbl.cell (World.block_lt_of_cell? w _ hcw')).trans hcw'
          have hpl : P.length = xs.length + ys.length := hrow.len
          obtain ⟨p, hp⟩ : ∃ p, P[i + j]? = some p := ⟨_, List.getElem?_eq_getElem (by omega)⟩
          have hcellP := hrow.cell hp
          obtain ⟨p0, p1⟩ := hin.1.get hp
          have hfz := hrow.frozen (i + j)
          obtain ⟨q0, q1⟩ := mul_bound a0 a1 b0 b1
          have HST := Lib.hid (hin.step' (t := p + a * b2 + y) hp HA.out HB2.out hy (by omega))
          have HR := Lib.hid hrow
          clear hin hrow hcw' hp
          have hw2 : (0 : Int) ≤ (i : Int) + (j : Int) := by omega
          go_wp2
          go_roundw
          case rel => exact ⟨j + 1, _, _, by go_num, rfl, by omega, HST.out, HR.out.set_ (i + j) _, hbl.setCell (Nat.le_refl _) _⟩
          case measure => simp [intOf]; omega
        · have hjy : j = ys.length := by omega
          subst hjy
          have hpl : P.length = xs.length + ys.length := hrow.len
          have hz := hin.2.2.2.1.zero_at (Nat.le_refl _) (by omega)
          have hcl := hin.close HLY.out hz
          have hcellP := hrow.cell hz
          have hfz := hrow.frozen (i + ys.length)
          have HCL := Lib.hid hcl
          have HR := Lib.hid hrow
          clear hin hrow hz hcl
          go_wp2
          go_roundw
          case rel => exact ⟨i + 1, _, by go_num, by omega, HCL.out, HR.out.set_ (i + ys.length) _, hbl.setCell (Nat.le_refl _) _⟩
          case measure => simp [intOf]; omega
    · have hix : i = xs.length := by omega
      subst hix
      have hd := hout.done HLX.out
      have HD := Lib.hid hd
      have hpl := hrow.len
      have HPL := Lib.hid hpl
      have HO := Lib.hid hrow
      clear hout hd hpl hrow
      go_wp2_with fail
      refine (spec_natTrim_own _ _ _ w.heap.size P _ HPL.out (by have := HO.out.own HPL.out; rwa [HPL.out] at this) HD.out.1).mono ?_
      rintro e w2 ⟨r2, rfl, o2, rfl⟩
      rw [HD.out.2] at o2
      go_wp2
      go_ret
      exact ⟨_, rfl, o2, hbl⟩
end Go.Proofs.YticekjagmcphbaaGreatDoor
