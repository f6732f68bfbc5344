/-
  Contracts: FormatNat and FormatBigInt of both packages. Written by an AI agent.
-/
import Derived.Test.YticekjagmcphbaaDoorFmtI
import Derived.Test.YticekjagmcphbaaDoorPadP
import Derived.Test.YticekjagmcphbaaDoorBigOk
import Derived.Test.YticekjagmcphbaaDoorCmp
namespace Go.Proofs.YticekjagmcphbaaDoor
open Go.RowKit

theorem impl_fmtI (n : Int) (w : World) (h0 : -9223372036854775808 ≤ n) (h1 : n ≤ 9223372036854775807) (ht : Tab w) :
    Calls Tryd.prog 13 #[.int .i64 n] w fun e w' => e = .returned (.string ⟨(Lib.itoa n).toArray⟩) ∧ Below w.heap.size w w' := impl_FormatInt n w h0 h1 ht
theorem spec_fmtI (n : Int) (w : World) (h0 : -9223372036854775808 ≤ n) (h1 : n ≤ 9223372036854775807) (_ht : Tab w) :
    Calls Tryd.prog 12 #[.int .i64 n] w fun e w' => e = .returned (.string ⟨(Lib.itoa n).toArray⟩) ∧ Below w.heap.size w w' := spec_FormatInt n w h0 h1
/-- The text of a natural number. -/
def decF (m : Nat) : ByteArray := ⟨(Lib.decDigits m).toArray⟩
/-- What FormatNat answers. -/
def fmtNatF (xs : List Int) : ByteArray := if okB xs = true then decF (val xs).toNat else ⟨#[]⟩
theorem fmtNat_no {xs : List Int} (h : okB xs = false) : fmtNatF xs = ⟨#[]⟩ := by unfold fmtNatF; rw [if_neg (by rw [h]; simp)]
theorem fmtNat_yes {m : Nat} (h : okB (toL m) = true) : fmtNatF (toL m) = decF m := by unfold fmtNatF; rw [if_pos h, val_toL, Int.toNat_natCast]
theorem itoa_limb (d : Nat) : Lib.itoa (d : Int) = Lib.decDigits d := Lib.itoa_nonneg d
theorem pw_ten (k : Nat) : pw k = 10 ^ (9 * k) := by
  unfold pw
  rw [show (1000000000 : Nat) = 10 ^ 9 by decide, ← Nat.pow_mul]
theorem dec_len_pw {m k : Nat} (h : m < pw k) (hk : 0 < k) : (Lib.decDigits m).length ≤ 9 * k := by
  rw [pw_ten] at h
  have := dec_len (k := 9 * k - 1) (n := m) (by rwa [show 9 * k - 1 + 1 = 9 * k by omega])
  omega
theorem dec_step {m j : Nat} (h : 0 < m / pw (j + 1)) : Lib.decDigits (m / pw j) = Lib.decDigits (m / pw (j + 1)) ++ padL 9 (Lib.decDigits (m / pw j % 1000000000)) := by
  have e : m / pw j = m / pw (j + 1) * 10 ^ (8 + 1) + m / pw j % 1000000000 := by
    rw [div_pw_succ, show (10 : Nat) ^ (8 + 1) = 1000000000 by decide]
    omega
  conv => lhs; rw [e]
  exact dec_pad h (by rw [show (10 : Nat) ^ (8 + 1) = 1000000000 by decide]; omega)
theorem padF_nine (l : List UInt8) : padF ⟨l.toArray⟩ 9 = ⟨(padL 9 l).toArray⟩ := by
  unfold padF
  rw [if_neg (by omega)]
  rfl
theorem top_pos {m : Nat} (h : 0 < m) : 0 < m / pw ((toL m).length - 1) := Nat.div_pos (toL_len_ge h) (pw_pos _)
theorem toL_len1 {m : Nat} (h : 0 < m) : 0 < (toL m).length := by rw [toL_pos h]; simp


set_option maxHeartbeats 4000000 in
theorem impl_FormatNat (v : Value) (xs : List Int) (w : World) (h : Sl w v xs) (ht : Tab w) :
    Calls Tryd.prog 16 #[v] w fun e w' => e = .returned (.string (fmtNatF xs)) ∧ Below w.heap.size w w' := by
  have HT := Lib.hid ht
  clear ht
  cases hx : okB xs with
  | false =>
    have HR := Lib.hid (fmtNat_no hx)
    go_enter Tryd.func16, Tryd.ntmps16
    go_wp2_with fail
    refine (impl_NatOk _ xs _ h).mono ?_
    rintro e w1 ⟨rfl, rfl⟩
    rw [hx]
    go_wp2
    go_ret
    exact ⟨by rw [HR.out]; rfl, Below.refl _ _⟩
  | true =>
  obtain ⟨m, rfl, hm⟩ := okB_toL hx
  have HX := Lib.hid hx
  have HR := Lib.hid (fmtNat_yes hx)
  have HS := Lib.hid h
  clear hx
  rcases Nat.eq_zero_or_pos m with h0 | h0
  · subst h0
    have HR0 : Hid (fmtNatF (toL 0) = ⟨#[48]⟩) := Lib.hid (by rw [HR.out]; unfold decF; rw [dec_small (by omega)]; rfl)
    have hl0 : (toL 0).length = 0 := by rw [toL_zero]; rfl
    obtain ⟨A, c, rfl, _, _, _⟩ := h
    rw [hl0] at HS ⊢
    clear hl0
    go_enter Tryd.func16, Tryd.ntmps16
    go_wp2_with fail
    refine (impl_NatOk _ (toL 0) _ HS.out).mono ?_
    rintro e w1 ⟨rfl, rfl⟩
    rw [HX.out]
    go_wp2
    go_ret
    exact ⟨by rw [HR0.out]; rfl, Below.refl _ _⟩
  · obtain ⟨A, c, rfl, h1, h2, h3⟩ := h
    have hl1 := toL_len1 h0
    have HTP := Lib.hid (top_pos h0)
    have HTD := Lib.hid (top_div (m := m))
    have HGX := Lib.hid (toL_at m)
    have hlm := toL_len_lt hm
    have hlt60 := dec_len_pw hm (by omega)
    have HLD := Lib.hid hlt60
    have HM := Lib.hid hm
    obtain ⟨n, hn⟩ : ∃ n, (toL m).length = n + 1 := ⟨(toL m).length - 1, by omega⟩
    rw [hn] at HTP HTD
    rw [Nat.add_sub_cancel] at HTP
    have HN := Lib.hid hn
    have hb : (((toL m).length : Int) == 0) = false := beq_eq_false_iff_ne.2 (by omega)
    obtain ⟨b, off, rfl, hc⟩ := h3 hl1
    have HC : Hid (∀ i, i ≤ n → w.cell? ⟨b, off + i, none⟩ = some (.int .i64 ((m / pw i % 1000000000 : Nat) : Int))) := Lib.hid (fun i hi => hc i _ (HGX.out i (by rw [HN.out]; omega)))
    have hbw := World.block_lt_of_cell? w _ (HC.out 0 (Nat.zero_le _))
    have hlz : ((toL m).length : Int) = (n : Int) + 1 := by omega
    have hn60 : (n : Int) ≤ 59 := by omega
    obtain ⟨d, hd⟩ : ∃ d : Int, d = ((m / pw n % 1000000000 : Nat) : Int) := ⟨_, rfl⟩
    have hcell := HC.out n (Nat.le_refl _)
    rw [← hd] at hcell
    have hd0 : 0 ≤ d ∧ d < 1000000000 := by rw [hd]; omega
    obtain ⟨hd1, hd2⟩ := hd0
    have HD : Hid (Lib.itoa d = Lib.decDigits (m / pw n)) := Lib.hid (by
      rw [hd, itoa_limb]
      congr 1
      refine Nat.mod_eq_of_lt ?_
      have h5 : m / pw n / 1000000000 = 0 := by rw [← div_pw_succ]; exact HTD.out
      omega)
    clear hc h3 hlm hlt60 hm hn hl1 h1 h2 hd
    go_enter Tryd.func16, Tryd.ntmps16
    go_wp2_with fail
    refine (impl_NatOk _ (toL m) _ HS.out).mono ?_
    rintro e w1 ⟨rfl, rfl⟩
    rw [HX.out]
    go_wp2_with fail
    refine (impl_fmtI d _ (by omega) (by omega) (HT.out.below (by repeat' (first | (with_reducible exact Below.refl _ _) | (with_reducible refine Below.alloc ?_ ?_ _) | (with_reducible refine Below.setCell ?_ ?_ _) | (with_reducible refine below_drewN ?_ _) | (with_reducible refine Below.drew ?_) | (with_reducible refine below_step (by assumption) ?_ ?_) | omega | (simp; done) | (simp; omega))))).mono ?_
    rintro e w2 ⟨rfl, b2⟩
    have z2 := b2.size
    rw [HD.out]
    go_wp2
    go_loopw [3, 4] (fun s i wr => ∃ (x : Int) (bs : ByteArray), i = .int .i64 x ∧ s = .string bs ∧ -1 ≤ x ∧ x < (n : Int) ∧ bs = ⟨(Lib.decDigits (m / pw (x + 1).toNat)).toArray⟩ ∧ Below w.heap.size w wr) (fun _ i _ => (intOf i + 1).toNat)
    case atStart => exact ⟨_, _, rfl, rfl, by omega, by omega, by rw [show ((n : Int) + 1 - 2 + 1).toNat = n by omega], (by repeat' (first | (with_reducible exact Below.refl _ _) | (with_reducible refine Below.alloc ?_ ?_ _) | (with_reducible refine Below.setCell ?_ ?_ _) | (with_reducible refine below_drewN ?_ _) | (with_reducible refine Below.drew ?_) | (with_reducible refine below_step (by assumption) ?_ ?_) | omega | (simp; done) | (simp; omega)))⟩
    case round =>
      obtain ⟨x, bs, rfl, rfl, hx1, hx2, hs, hbl⟩ := hrel
      have hbz := hbl.size
      have HBL := Lib.hid hbl
      by_cases hx : 0 ≤ x
      · obtain ⟨j, rfl⟩ := Int.eq_ofNat_of_zero_le hx
        rw [show ((j : Int) + 1).toNat = j + 1 by omega] at hs
        have hlt : j < n := by omega
        obtain ⟨f, hf⟩ : ∃ f : Int, f = ((m / pw j % 1000000000 : Nat) : Int) := ⟨_, rfl⟩
        have hcl := (hbl.cell (p := ⟨b, off + j, none⟩) hbw).trans (HC.out j (by omega))
        rw [← hf] at hcl
        have hf0 : 0 ≤ f ∧ f < 1000000000 := by rw [hf]; omega
        obtain ⟨hf1, hf2⟩ := hf0
        have hpos : 0 < m / pw (j + 1) := by
          have h7 := HTP.out
          have h8 : m / pw n ≤ m / pw (j + 1) := Nat.div_le_div_left (pw_le (by omega)) (pw_pos _)
          omega
        have HST := Lib.hid (dec_step hpos)
        have HF : Hid (Lib.itoa f = Lib.decDigits (m / pw j % 1000000000)) := Lib.hid (by rw [hf, itoa_limb])
        have hbs : bs.size ≤ 540 := by
          rw [hs]
          show (Lib.decDigits _).toArray.size ≤ 540
          rw [List.size_toArray]
          exact dec_len_pw (Nat.lt_of_le_of_lt (Nat.div_le_self _ _) HM.out) (by omega)
        have HB := Lib.hid hs
        clear hs hf hpos hbl
        go_wp2_with fail
        refine (impl_fmtI f _ (by omega) (by omega) (HT.out.below (by have := HBL.out; exact (by repeat' (first | (with_reducible exact Below.refl _ _) | (with_reducible refine Below.alloc ?_ ?_ _) | (with_reducible refine Below.setCell ?_ ?_ _) | (with_reducible refine below_drewN ?_ _) | (with_reducible refine Below.drew ?_) | (with_reducible refine below_step (by assumption) ?_ ?_) | omega | (simp; done) | (simp; omega)))))).mono ?_
        rintro e w3 ⟨rfl, b3⟩
        have z3 := b3.size
        have hil : (⟨(Lib.itoa f).toArray⟩ : ByteArray).size ≤ 21 := by
          show (Lib.itoa f).toArray.size ≤ 21
          rw [List.size_toArray]
          exact Lib.itoa_length_le f (by omega) (by omega)
        obtain ⟨X, hX⟩ : ∃ X : ByteArray, X = ⟨(Lib.itoa f).toArray⟩ := ⟨_, rfl⟩
        rw [← hX] at hil ⊢
        have HX2 := Lib.hid hX
        clear hX
        go_wp2_with fail
        refine (impl_PadZeros X 9 _ (by omega) (by omega) (by omega)).mono ?_
        rintro e w4 ⟨rfl, b4⟩
        have z4 := b4.size
        have HP : Hid (padF X 9 = ⟨(padL 9 (Lib.decDigits (m / pw j % 1000000000))).toArray⟩) := Lib.hid (by rw [HX2.out, padF_nine, HF.out])
        obtain ⟨Y, hY⟩ : ∃ Y : ByteArray, Y = padF X 9 := ⟨_, rfl⟩
        have hYs : Y.size ≤ 30 := by
          rw [hY, HX2.out, padF_nine]
          show (padL 9 (Lib.itoa f)).toArray.size ≤ 30
          have h9 := Lib.itoa_length_le f (by omega) (by omega)
          rw [List.size_toArray]
          unfold padL
          rw [List.length_append, List.length_replicate]
          omega
        rw [← hY] at HP ⊢
        clear hY
        go_wp2
        go_roundw
        case rel => exact ⟨(j : Int) - 1, _, rfl, rfl, by omega, by omega, by rw [show ((j : Int) - 1 + 1).toNat = j by omega, HB.out, HP.out, bytes_cat, HST.out], by have := HBL.out; exact (by repeat' (first | (with_reducible exact Below.refl _ _) | (with_reducible refine Below.alloc ?_ ?_ _) | (with_reducible refine Below.setCell ?_ ?_ _) | (with_reducible refine below_drewN ?_ _) | (with_reducible refine Below.drew ?_) | (with_reducible refine below_step (by assumption) ?_ ?_) | omega | (simp; done) | (simp; omega)))⟩
        case measure => simp [intOf]
      · have HB : Hid (bs = decF m) := Lib.hid (by rw [hs, show (x + 1).toNat = 0 by omega, pw_zero, Nat.div_one]; rfl)
        clear hs
        go_wp2
        go_ret
        exact ⟨by rw [HR.out, ← HB.out]; rfl, HBL.out⟩

set_option maxHeartbeats 4000000 in
theorem spec_FormatNat (v : Value) (xs : List Int) (w : World) (h : Sl w v xs) (ht : Tab w) :
    Calls Tryd.prog 14 #[v] w fun e w' => e = .returned (.string (fmtNatF xs)) ∧ Below w.heap.size w w' := by
  have HT := Lib.hid ht
  clear ht
  cases hx : okB xs with
  | false =>
    have HR := Lib.hid (fmtNat_no hx)
    go_enter Tryd.func14, Tryd.ntmps14
    go_wp2_with fail
    refine (spec_NatOk _ xs _ h).mono ?_
    rintro e w1 ⟨rfl, rfl⟩
    rw [hx]
    go_wp2
    go_ret
    exact ⟨by rw [HR.out]; rfl, Below.refl _ _⟩
  | true =>
  obtain ⟨m, rfl, hm⟩ := okB_toL hx
  have HX := Lib.hid hx
  have HR := Lib.hid (fmtNat_yes hx)
  have HS := Lib.hid h
  clear hx
  rcases Nat.eq_zero_or_pos m with h0 | h0
  · subst h0
    have HR0 : Hid (fmtNatF (toL 0) = ⟨#[48]⟩) := Lib.hid (by rw [HR.out]; unfold decF; rw [dec_small (by omega)]; rfl)
    have hl0 : (toL 0).length = 0 := by rw [toL_zero]; rfl
    obtain ⟨A, c, rfl, _, _, _⟩ := h
    rw [hl0] at HS ⊢
    clear hl0
    go_enter Tryd.func14, Tryd.ntmps14
    go_wp2_with fail
    refine (spec_NatOk _ (toL 0) _ HS.out).mono ?_
    rintro e w1 ⟨rfl, rfl⟩
    rw [HX.out]
    go_wp2
    go_ret
    exact ⟨by rw [HR0.out]; rfl, Below.refl _ _⟩
  · obtain ⟨A, c, rfl, h1, h2, h3⟩ := h
    have hl1 := toL_len1 h0
    have HTP := Lib.hid (top_pos h0)
    have HTD := Lib.hid (top_div (m := m))
    have HGX := Lib.hid (toL_at m)
    have hlm := toL_len_lt hm
    have hlt60 := dec_len_pw hm (by omega)
    have HLD := Lib.hid hlt60
    have HM := Lib.hid hm
    obtain ⟨n, hn⟩ : ∃ n, (toL m).length = n + 1 := ⟨(toL m).length - 1, by omega⟩
    rw [hn] at HTP HTD
    rw [Nat.add_sub_cancel] at HTP
    have HN := Lib.hid hn
    have hb : (((toL m).length : Int) == 0) = false := beq_eq_false_iff_ne.2 (by omega)
    obtain ⟨b, off, rfl, hc⟩ := h3 hl1
    have HC : Hid (∀ i, i ≤ n → w.cell? ⟨b, off + i, none⟩ = some (.int .i64 ((m / pw i % 1000000000 : Nat) : Int))) := Lib.hid (fun i hi => hc i _ (HGX.out i (by rw [HN.out]; omega)))
    have hbw := World.block_lt_of_cell? w _ (HC.out 0 (Nat.zero_le _))
    have hlz : ((toL m).length : Int) = (n : Int) + 1 := by omega
    have hn60 : (n : Int) ≤ 59 := by omega
    obtain ⟨d, hd⟩ : ∃ d : Int, d = ((m / pw n % 1000000000 : Nat) : Int) := ⟨_, rfl⟩
    have hcell := HC.out n (Nat.le_refl _)
    rw [← hd] at hcell
    have hd0 : 0 ≤ d ∧ d < 1000000000 := by rw [hd]; omega
    obtain ⟨hd1, hd2⟩ := hd0
    have HD : Hid (Lib.itoa d = Lib.decDigits (m / pw n)) := Lib.hid (by
      rw [hd, itoa_limb]
      congr 1
      refine Nat.mod_eq_of_lt ?_
      have h5 : m / pw n / 1000000000 = 0 := by rw [← div_pw_succ]; exact HTD.out
      omega)
    clear hc h3 hlm hlt60 hm hn hl1 h1 h2 hd
    go_enter Tryd.func14, Tryd.ntmps14
    go_wp2_with fail
    refine (spec_NatOk _ (toL m) _ HS.out).mono ?_
    rintro e w1 ⟨rfl, rfl⟩
    rw [HX.out]
    go_wp2_with fail
    refine (spec_fmtI d _ (by omega) (by omega) (HT.out.below (by repeat' (first | (with_reducible exact Below.refl _ _) | (with_reducible refine Below.alloc ?_ ?_ _) | (with_reducible refine Below.setCell ?_ ?_ _) | (with_reducible refine below_drewN ?_ _) | (with_reducible refine Below.drew ?_) | (with_reducible refine below_step (by assumption) ?_ ?_) | omega | (simp; done) | (simp; omega))))).mono ?_
    rintro e w2 ⟨rfl, b2⟩
    have z2 := b2.size
    rw [HD.out]
    go_wp2
    go_loopw [3, 4] (fun s i wr => ∃ (x : Int) (bs : ByteArray), i = .int .i64 x ∧ s = .string bs ∧ -1 ≤ x ∧ x < (n : Int) ∧ bs = ⟨(Lib.decDigits (m / pw (x + 1).toNat)).toArray⟩ ∧ Below w.heap.size w wr) (fun _ i _ => (intOf i + 1).toNat)
    case atStart => exact ⟨_, _, rfl, rfl, by omega, by omega, by rw [show ((n : Int) + 1 - 2 + 1).toNat = n by omega], (by repeat' (first | (with_reducible exact Below.refl _ _) | (with_reducible refine Below.alloc ?_ ?_ _) | (with_reducible refine Below.setCell ?_ ?_ _) | (with_reducible refine below_drewN ?_ _) | (with_reducible refine Below.drew ?_) | (with_reducible refine below_step (by assumption) ?_ ?_) | omega | (simp; done) | (simp; omega)))⟩
    case round =>
      obtain ⟨x, bs, rfl, rfl, hx1, hx2, hs, hbl⟩ := hrel
      have hbz := hbl.size
      have HBL := Lib.hid hbl
      by_cases hx : 0 ≤ x
      · obtain ⟨j, rfl⟩ := Int.eq_ofNat_of_zero_le hx
        rw [show ((j : Int) + 1).toNat = j + 1 by omega] at hs
        have hlt : j < n := by omega
        obtain ⟨f, hf⟩ : ∃ f : Int, f = ((m / pw j % 1000000000 : Nat) : Int) := ⟨_, rfl⟩
        have hcl := (hbl.cell (p := ⟨b, off + j, none⟩) hbw).trans (HC.out j (by omega))
        rw [← hf] at hcl
        have hf0 : 0 ≤ f ∧ f < 1000000000 := by rw [hf]; omega
        obtain ⟨hf1, hf2⟩ := hf0
        have hpos : 0 < m / pw (j + 1) := by
          have h7 := HTP.out
          have h8 : m / pw n ≤ m / pw (j + 1) := Nat.div_le_div_left (pw_le (by omega)) (pw_pos _)
          omega
        have HST := Lib.hid (dec_step hpos)
        have HF : Hid (Lib.itoa f = Lib.decDigits (m / pw j % 1000000000)) := Lib.hid (by rw [hf, itoa_limb])
        have hbs : bs.size ≤ 540 := by
          rw [hs]
          show (Lib.decDigits _).toArray.size ≤ 540
          rw [List.size_toArray]
          exact dec_len_pw (Nat.lt_of_le_of_lt (Nat.div_le_self _ _) HM.out) (by omega)
        have HB := Lib.hid hs
        clear hs hf hpos hbl
        go_wp2_with fail
        refine (spec_fmtI f _ (by omega) (by omega) (HT.out.below (by have := HBL.out; exact (by repeat' (first | (with_reducible exact Below.refl _ _) | (with_reducible refine Below.alloc ?_ ?_ _) | (with_reducible refine Below.setCell ?_ ?_ _) | (with_reducible refine below_drewN ?_ _) | (with_reducible refine Below.drew ?_) | (with_reducible refine below_step (by assumption) ?_ ?_) | omega | (simp; done) | (simp; omega)))))).mono ?_
        rintro e w3 ⟨rfl, b3⟩
        have z3 := b3.size
        have hil : (⟨(Lib.itoa f).toArray⟩ : ByteArray).size ≤ 21 := by
          show (Lib.itoa f).toArray.size ≤ 21
          rw [List.size_toArray]
          exact Lib.itoa_length_le f (by omega) (by omega)
        obtain ⟨X, hX⟩ : ∃ X : ByteArray, X = ⟨(Lib.itoa f).toArray⟩ := ⟨_, rfl⟩
        rw [← hX] at hil ⊢
        have HX2 := Lib.hid hX
        clear hX
        go_wp2_with fail
        refine (spec_PadZeros X 9 _ (by omega) (by omega) (by omega)).mono ?_
        rintro e w4 ⟨rfl, b4⟩
        have z4 := b4.size
        have HP : Hid (padF X 9 = ⟨(padL 9 (Lib.decDigits (m / pw j % 1000000000))).toArray⟩) := Lib.hid (by rw [HX2.out, padF_nine, HF.out])
        obtain ⟨Y, hY⟩ : ∃ Y : ByteArray, Y = padF X 9 := ⟨_, rfl⟩
        have hYs : Y.size ≤ 30 := by
          rw [hY, HX2.out, padF_nine]
          show (padL 9 (Lib.itoa f)).toArray.size ≤ 30
          have h9 := Lib.itoa_length_le f (by omega) (by omega)
          rw [List.size_toArray]
          unfold padL
          rw [List.length_append, List.length_replicate]
          omega
        rw [← hY] at HP ⊢
        clear hY
        go_wp2
        go_roundw
        case rel => exact ⟨(j : Int) - 1, _, rfl, rfl, by omega, by omega, by rw [show ((j : Int) - 1 + 1).toNat = j by omega, HB.out, HP.out, bytes_cat, HST.out], by have := HBL.out; exact (by repeat' (first | (with_reducible exact Below.refl _ _) | (with_reducible refine Below.alloc ?_ ?_ _) | (with_reducible refine Below.setCell ?_ ?_ _) | (with_reducible refine below_drewN ?_ _) | (with_reducible refine Below.drew ?_) | (with_reducible refine below_step (by assumption) ?_ ?_) | omega | (simp; done) | (simp; omega)))⟩
        case measure => simp [intOf]
      · have HB : Hid (bs = decF m) := Lib.hid (by rw [hs, show (x + 1).toNat = 0 by omega, pw_zero, Nat.div_one]; rfl)
        clear hs
        go_wp2
        go_ret
        exact ⟨by rw [HR.out, ← HB.out]; rfl, HBL.out⟩

end Go.Proofs.YticekjagmcphbaaDoor
