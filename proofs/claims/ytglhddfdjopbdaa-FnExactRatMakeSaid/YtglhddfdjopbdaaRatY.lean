/-
  Contracts: RatNeg, RatMin, RatMax, RatSign, RatMake, both packages. Written by an AI agent.
-/
import Derived.Test.YtglhddfdjopbdaaRatX
namespace Go.Proofs.Ytglhddfdjopbdaa
open Go.RowKit

theorem zv_num {s : Bool} {m : Nat} (h : m < pw 24) : (bigZ s m).natAbs < pw 24 := by rwa [bigZ_abs]
def ratNegF (s : Bool) (xs ys : List Int) : Int × Nat := if ratOkB s xs ys then (bigZ (!s) (dv xs), dv ys) else (0, 0)
theorem ratNegF_len (s : Bool) (xs ys : List Int) : (toL (ratNegF s xs ys).1.natAbs).length ≤ 2000000 ∧ (toL (ratNegF s xs ys).2).length ≤ 2000000 := by
  unfold ratNegF
  split
  · rename_i h
    obtain ⟨m, l, rfl, rfl, hm, h0, hl, _, _⟩ := ratOk_iff h
    rw [dv_toL, dv_toL]
    exact q_len (p := (bigZ (!s) m, l)) (zv_num hm) hl
  · exact zero_lenq
def ratPick (c : Bool) (s t : Bool) (xs ys us vs : List Int) : Int × Nat := if ratOkB s xs ys && ratOkB t us vs then (if c then (zv s xs, dv ys) else (zv t us, dv vs)) else (0, 0)
def ratMinF (s t : Bool) (xs ys us vs : List Int) : Int × Nat := ratPick (decide (ratCmpF s t xs ys us vs ≤ 0)) s t xs ys us vs
def ratMaxF (s t : Bool) (xs ys us vs : List Int) : Int × Nat := ratPick (decide (0 ≤ ratCmpF s t xs ys us vs)) s t xs ys us vs
theorem ratPick_len (c s t : Bool) (xs ys us vs : List Int) : (toL (ratPick c s t xs ys us vs).1.natAbs).length ≤ 2000000 ∧ (toL (ratPick c s t xs ys us vs).2).length ≤ 2000000 := by
  unfold ratPick
  split
  · rename_i h
    rw [Bool.and_eq_true] at h
    obtain ⟨m, l, rfl, rfl, hm, h0, hl, _, _⟩ := ratOk_iff h.1
    obtain ⟨m', l', rfl, rfl, hm', h0', hl', _, _⟩ := ratOk_iff h.2
    rw [zv_toL, zv_toL, dv_toL, dv_toL]
    split
    · exact q_len (p := (bigZ s m, l)) (zv_num hm) hl
    · exact q_len (p := (bigZ t m', l')) (zv_num hm') hl'
  · exact zero_lenq
theorem ratMinF_len (s t : Bool) (xs ys us vs : List Int) : (toL (ratMinF s t xs ys us vs).1.natAbs).length ≤ 2000000 ∧ (toL (ratMinF s t xs ys us vs).2).length ≤ 2000000 := ratPick_len _ _ _ _ _ _ _
theorem ratMaxF_len (s t : Bool) (xs ys us vs : List Int) : (toL (ratMaxF s t xs ys us vs).1.natAbs).length ≤ 2000000 ∧ (toL (ratMaxF s t xs ys us vs).2).length ≤ 2000000 := ratPick_len _ _ _ _ _ _ _
def sgnF (s : Bool) (m : Nat) : Int := if m = 0 then 0 else if s then -1 else 1
theorem sgnF_zero (s : Bool) : sgnF s 0 = 0 := rfl
theorem sgnF_pos {s : Bool} {m : Nat} (h : 0 < m) : sgnF s m = if s then -1 else 1 := if_neg (by omega)
def ratSignF (s : Bool) (xs ys : List Int) : Int := if ratOkB s xs ys then sgnF s (dv xs) else 0
def ratMakeF (s t : Bool) (xs ys : List Int) : Int × Nat := if bigOk s xs && bigOk t ys then ratF (s != t) (dv xs) (dv ys) else (0, 0)
theorem ratMakeF_len (s t : Bool) (xs ys : List Int) : (toL (ratMakeF s t xs ys).1.natAbs).length ≤ 2000000 ∧ (toL (ratMakeF s t xs ys).2).length ≤ 2000000 := by
  unfold ratMakeF
  split
  · exact ratF_len _ _ _
  · exact zero_lenq
theorem copy_q {s : Bool} {m l : Nat} {A B : Option Addr} {n c k d : Nat} {p : Int × Nat} {w w' : World} (h : p = (bigZ s m, l)) (hs : s = true → 0 < m) (o : PairR w' w.heap.size w'.heap.size 3 (.slice A n c) (.slice B k d) (toL m) (toL l)) (b : Below w.heap.size w w') :
    RetQ p w (.returned (.agg #[.bool s, .slice A n c, .slice B k d])) w' := retq_made h (sgn_dec hs) (bigZ_abs _ _) o b
set_option maxRecDepth 100000 in
set_option maxHeartbeats 8000000 in
theorem impl_RatNeg (s : Bool) (A1 B1 : Option Addr) (n1 c1 k1 d1 : Nat) (xs ys : List Int) (w : World) (u1 : Sl w (.slice A1 n1 c1) xs) (u2 : Sl w (.slice B1 k1 d1) ys) :
    Calls Try.prog 42 #[.agg #[.bool s, .slice A1 n1 c1, .slice B1 k1 d1]] w (RetQ (ratNegF s xs ys) w) := by
  have U1 := Lib.hid u1
  have U2 := Lib.hid u2
  obtain rfl := u1.len
  clear u1 u2
  have zz : w.heap.size < w.heap.size + 1 + 1 := by omega
  have nn := Nat.ne_of_lt zz
  have mm := (Nat.ne_of_lt zz).symm
  cases hx : ratOkB s xs ys with
  | false =>
    have HR := Lib.hid (show ratNegF s xs ys = (0, 0) by unfold ratNegF; rw [hx]; rfl)
    go_enter Try.func42, Try.ntmps42
    go_wp2_with fail
    (with_reducible refine (impl_RatOk s A1 B1 _ c1 k1 d1 _ _ _ (U1.out.below (by repeat' (first | (with_reducible exact Below.refl _ _) | (with_reducible refine Below.alloc ?_ ?_ _) | (with_reducible refine Below.setCell ?_ ?_ _) | (with_reducible refine below_drewN ?_ _) | (with_reducible refine Below.drew ?_) | (with_reducible refine below_step (by assumption) ?_ ?_) | omega | (simp; done) | (simp; omega)))) (U2.out.below (by repeat' (first | (with_reducible exact Below.refl _ _) | (with_reducible refine Below.alloc ?_ ?_ _) | (with_reducible refine Below.setCell ?_ ?_ _) | (with_reducible refine below_drewN ?_ _) | (with_reducible refine Below.drew ?_) | (with_reducible refine below_step (by assumption) ?_ ?_) | omega | (simp; done) | (simp; omega))))).mono ?_); rintro e w1 ⟨rfl, b1⟩; obtain ⟨hc1, hf1⟩ := bxcell b1; have q1_0 := fun o => hc1 (w.heap.size) o (by first | omega | (simp; done) | (simp; omega)); have q1_1 := fun o => hc1 (w.heap.size + 1) o (by first | omega | (simp; done) | (simp; omega)); have f1_0 := fun o => hf1 (w.heap.size) o (by first | omega | (simp; done) | (simp; omega)); have f1_1 := fun o => hf1 (w.heap.size + 1) o (by first | omega | (simp; done) | (simp; omega)); have hz1 := b1.size; (try simp at hz1); have z1_0 : w.heap.size < w1.heap.size := (by omega); have n1_0 := Nat.ne_of_lt z1_0; have m1_0 := (Nat.ne_of_lt z1_0).symm; have z1_1 : w.heap.size + 1 < w1.heap.size := (by omega); have n1_1 := Nat.ne_of_lt z1_1; have m1_1 := (Nat.ne_of_lt z1_1).symm
    rw [hx]
    go_wp2
    exact bodyPost_ret (v := .agg #[.bool false, .slice none 0 0, .slice none 0 0]) (by simp [results, Try.results42, go_sem, *]) rfl (retq_zero HR.out (by repeat' (first | (with_reducible exact Below.refl _ _) | (with_reducible refine Below.alloc ?_ ?_ _) | (with_reducible refine Below.setCell ?_ ?_ _) | (with_reducible refine below_drewN ?_ _) | (with_reducible refine Below.drew ?_) | (with_reducible refine below_step (by assumption) ?_ ?_) | omega | (simp; done) | (simp; omega))))
  | true =>
    have HX := Lib.hid hx
    obtain ⟨m1, l1, rfl, rfl, hm1, h01, hl1, hg1, hs1⟩ := ratOk_iff hx
    have HR := Lib.hid (show ratNegF s (toL m1) (toL l1) = (bigZ (!s) m1, l1) by unfold ratNegF; rw [hx]; simp only [dv_toL]; rfl)
    have M1 := Lib.hid hm1
    have L1 := Lib.hid hl1
    have P1 := Lib.hid h01
    have S1 := Lib.hid hs1
    have hlm : (toL m1).length ≤ 24 := toL_len_lt hm1
    clear hm1 hl1 h01 hs1 hg1 hx
    go_enter Try.func42, Try.ntmps42
    go_wp2_with fail
    (with_reducible refine (impl_RatOk s A1 B1 _ c1 k1 d1 _ _ _ (U1.out.below (by repeat' (first | (with_reducible exact Below.refl _ _) | (with_reducible refine Below.alloc ?_ ?_ _) | (with_reducible refine Below.setCell ?_ ?_ _) | (with_reducible refine below_drewN ?_ _) | (with_reducible refine Below.drew ?_) | (with_reducible refine below_step (by assumption) ?_ ?_) | omega | (simp; done) | (simp; omega)))) (U2.out.below (by repeat' (first | (with_reducible exact Below.refl _ _) | (with_reducible refine Below.alloc ?_ ?_ _) | (with_reducible refine Below.setCell ?_ ?_ _) | (with_reducible refine below_drewN ?_ _) | (with_reducible refine Below.drew ?_) | (with_reducible refine below_step (by assumption) ?_ ?_) | omega | (simp; done) | (simp; omega))))).mono ?_); rintro e w1 ⟨rfl, b1⟩; obtain ⟨hc1, hf1⟩ := bxcell b1; have q1_0 := fun o => hc1 (w.heap.size) o (by first | omega | (simp; done) | (simp; omega)); have q1_1 := fun o => hc1 (w.heap.size + 1) o (by first | omega | (simp; done) | (simp; omega)); have f1_0 := fun o => hf1 (w.heap.size) o (by first | omega | (simp; done) | (simp; omega)); have f1_1 := fun o => hf1 (w.heap.size + 1) o (by first | omega | (simp; done) | (simp; omega)); have hz1 := b1.size; (try simp at hz1); have z1_0 : w.heap.size < w1.heap.size := (by omega); have n1_0 := Nat.ne_of_lt z1_0; have m1_0 := (Nat.ne_of_lt z1_0).symm; have z1_1 : w.heap.size + 1 < w1.heap.size := (by omega); have n1_1 := Nat.ne_of_lt z1_1; have m1_1 := (Nat.ne_of_lt z1_1).symm
    rw [HX.out]
    go_wp2_with fail
    (with_reducible refine ((impl_ratNeg s A1 B1 _ c1 k1 d1 m1 l1 _ (U1.out.below (by repeat' (first | (with_reducible exact Below.refl _ _) | (with_reducible refine Below.alloc ?_ ?_ _) | (with_reducible refine Below.setCell ?_ ?_ _) | (with_reducible refine below_drewN ?_ _) | (with_reducible refine Below.drew ?_) | (with_reducible refine below_step (by assumption) ?_ ?_) | omega | (simp; done) | (simp; omega)))) (U2.out.below (by repeat' (first | (with_reducible exact Below.refl _ _) | (with_reducible refine Below.alloc ?_ ?_ _) | (with_reducible refine Below.setCell ?_ ?_ _) | (with_reducible refine below_drewN ?_ _) | (with_reducible refine Below.drew ?_) | (with_reducible refine below_step (by assumption) ?_ ?_) | omega | (simp; done) | (simp; omega)))) M1.out L1.out P1.out).mono (fun _ _ h => RetQ.give h)).mono ?_); rintro e w3 ⟨u3, A3, n3, c3, B3, k3, d3, rfl, hu3, o3, b3⟩; obtain ⟨hc3, hf3⟩ := bxcell b3; have q3_0 := fun o => hc3 (w.heap.size) o (by first | omega | (simp; done) | (simp; omega)); have q3_1 := fun o => hc3 (w.heap.size + 1) o (by first | omega | (simp; done) | (simp; omega)); have f3_0 := fun o => hf3 (w.heap.size) o (by first | omega | (simp; done) | (simp; omega)); have f3_1 := fun o => hf3 (w.heap.size + 1) o (by first | omega | (simp; done) | (simp; omega)); have hz3 := b3.size; (try simp at hz3); have z3_0 : w.heap.size < w3.heap.size := (by omega); have n3_0 := Nat.ne_of_lt z3_0; have m3_0 := (Nat.ne_of_lt z3_0).symm; have z3_1 : w.heap.size + 1 < w3.heap.size := (by omega); have n3_1 := Nat.ne_of_lt z3_1; have m3_1 := (Nat.ne_of_lt z3_1).symm; have HU3 := Lib.hid hu3; have O3 := Lib.hid o3; clear hu3 o3
    go_wp2
    exact bodyPost_ret (v := .agg #[.bool u3, .slice A3 n3 c3, .slice B3 k3 d3]) (by simp [results, Try.results42, go_sem, *]) rfl (GiveQ.to HR.out HU3.out (PairR.wide (lo := w1.heap.size) (hi := w3.heap.size) ((by have hfar := O3.out; repeat' (first | (with_reducible exact hfar) | (with_reducible refine PairR.far ?_ _ _ ?_) | (with_reducible refine PairR.allocd ?_ _ ?_) | (left; first | omega | (simp; done) | (simp; omega)) | (right; first | omega | (simp; done) | (simp; omega)) | omega | (simp; done) | (simp; omega) | (exact hfar)))) (by first | omega | (simp; done) | (simp; omega)) (by first | omega | (simp; done) | (simp; omega))) (by repeat' (first | (with_reducible exact Below.refl _ _) | (with_reducible refine Below.alloc ?_ ?_ _) | (with_reducible refine Below.setCell ?_ ?_ _) | (with_reducible refine below_drewN ?_ _) | (with_reducible refine Below.drew ?_) | (with_reducible refine below_step (by assumption) ?_ ?_) | omega | (simp; done) | (simp; omega))))
set_option maxRecDepth 100000 in
set_option maxHeartbeats 8000000 in
theorem spec_RatNeg (s : Bool) (A1 B1 : Option Addr) (n1 c1 k1 d1 : Nat) (xs ys : List Int) (w : World) (u1 : Sl w (.slice A1 n1 c1) xs) (u2 : Sl w (.slice B1 k1 d1) ys) :
    Calls Try.prog 41 #[.agg #[.bool s, .slice A1 n1 c1, .slice B1 k1 d1]] w (RetQ (ratNegF s xs ys) w) := by
  have U1 := Lib.hid u1
  have U2 := Lib.hid u2
  obtain rfl := u1.len
  clear u1 u2
  have zz : w.heap.size < w.heap.size + 1 + 1 := by omega
  have nn := Nat.ne_of_lt zz
  have mm := (Nat.ne_of_lt zz).symm
  cases hx : ratOkB s xs ys with
  | false =>
    have HR := Lib.hid (show ratNegF s xs ys = (0, 0) by unfold ratNegF; rw [hx]; rfl)
    go_enter Try.func41, Try.ntmps41
    go_wp2_with fail
    (with_reducible refine (spec_RatOk s A1 B1 _ c1 k1 d1 _ _ _ (U1.out.below (by repeat' (first | (with_reducible exact Below.refl _ _) | (with_reducible refine Below.alloc ?_ ?_ _) | (with_reducible refine Below.setCell ?_ ?_ _) | (with_reducible refine below_drewN ?_ _) | (with_reducible refine Below.drew ?_) | (with_reducible refine below_step (by assumption) ?_ ?_) | omega | (simp; done) | (simp; omega)))) (U2.out.below (by repeat' (first | (with_reducible exact Below.refl _ _) | (with_reducible refine Below.alloc ?_ ?_ _) | (with_reducible refine Below.setCell ?_ ?_ _) | (with_reducible refine below_drewN ?_ _) | (with_reducible refine Below.drew ?_) | (with_reducible refine below_step (by assumption) ?_ ?_) | omega | (simp; done) | (simp; omega))))).mono ?_); rintro e w1 ⟨rfl, b1⟩; obtain ⟨hc1, hf1⟩ := bxcell b1; have q1_0 := fun o => hc1 (w.heap.size) o (by first | omega | (simp; done) | (simp; omega)); have q1_1 := fun o => hc1 (w.heap.size + 1) o (by first | omega | (simp; done) | (simp; omega)); have f1_0 := fun o => hf1 (w.heap.size) o (by first | omega | (simp; done) | (simp; omega)); have f1_1 := fun o => hf1 (w.heap.size + 1) o (by first | omega | (simp; done) | (simp; omega)); have hz1 := b1.size; (try simp at hz1); have z1_0 : w.heap.size < w1.heap.size := (by omega); have n1_0 := Nat.ne_of_lt z1_0; have m1_0 := (Nat.ne_of_lt z1_0).symm; have z1_1 : w.heap.size + 1 < w1.heap.size := (by omega); have n1_1 := Nat.ne_of_lt z1_1; have m1_1 := (Nat.ne_of_lt z1_1).symm
    rw [hx]
    go_wp2
    exact bodyPost_ret (v := .agg #[.bool false, .slice none 0 0, .slice none 0 0]) (by simp [results, Try.results41, go_sem, *]) rfl (retq_zero HR.out (by repeat' (first | (with_reducible exact Below.refl _ _) | (with_reducible refine Below.alloc ?_ ?_ _) | (with_reducible refine Below.setCell ?_ ?_ _) | (with_reducible refine below_drewN ?_ _) | (with_reducible refine Below.drew ?_) | (with_reducible refine below_step (by assumption) ?_ ?_) | omega | (simp; done) | (simp; omega))))
  | true =>
    have HX := Lib.hid hx
    obtain ⟨m1, l1, rfl, rfl, hm1, h01, hl1, hg1, hs1⟩ := ratOk_iff hx
    have HR := Lib.hid (show ratNegF s (toL m1) (toL l1) = (bigZ (!s) m1, l1) by unfold ratNegF; rw [hx]; simp only [dv_toL]; rfl)
    have M1 := Lib.hid hm1
    have L1 := Lib.hid hl1
    have P1 := Lib.hid h01
    have S1 := Lib.hid hs1
    have hlm : (toL m1).length ≤ 24 := toL_len_lt hm1
    clear hm1 hl1 h01 hs1 hg1 hx
    go_enter Try.func41, Try.ntmps41
    go_wp2_with fail
    (with_reducible refine (spec_RatOk s A1 B1 _ c1 k1 d1 _ _ _ (U1.out.below (by repeat' (first | (with_reducible exact Below.refl _ _) | (with_reducible refine Below.alloc ?_ ?_ _) | (with_reducible refine Below.setCell ?_ ?_ _) | (with_reducible refine below_drewN ?_ _) | (with_reducible refine Below.drew ?_) | (with_reducible refine below_step (by assumption) ?_ ?_) | omega | (simp; done) | (simp; omega)))) (U2.out.below (by repeat' (first | (with_reducible exact Below.refl _ _) | (with_reducible refine Below.alloc ?_ ?_ _) | (with_reducible refine Below.setCell ?_ ?_ _) | (with_reducible refine below_drewN ?_ _) | (with_reducible refine Below.drew ?_) | (with_reducible refine below_step (by assumption) ?_ ?_) | omega | (simp; done) | (simp; omega))))).mono ?_); rintro e w1 ⟨rfl, b1⟩; obtain ⟨hc1, hf1⟩ := bxcell b1; have q1_0 := fun o => hc1 (w.heap.size) o (by first | omega | (simp; done) | (simp; omega)); have q1_1 := fun o => hc1 (w.heap.size + 1) o (by first | omega | (simp; done) | (simp; omega)); have f1_0 := fun o => hf1 (w.heap.size) o (by first | omega | (simp; done) | (simp; omega)); have f1_1 := fun o => hf1 (w.heap.size + 1) o (by first | omega | (simp; done) | (simp; omega)); have hz1 := b1.size; (try simp at hz1); have z1_0 : w.heap.size < w1.heap.size := (by omega); have n1_0 := Nat.ne_of_lt z1_0; have m1_0 := (Nat.ne_of_lt z1_0).symm; have z1_1 : w.heap.size + 1 < w1.heap.size := (by omega); have n1_1 := Nat.ne_of_lt z1_1; have m1_1 := (Nat.ne_of_lt z1_1).symm
    rw [HX.out]
    go_wp2_with fail
    (with_reducible refine ((spec_l04Neg s A1 B1 _ c1 k1 d1 m1 l1 _ (U1.out.below (by repeat' (first | (with_reducible exact Below.refl _ _) | (with_reducible refine Below.alloc ?_ ?_ _) | (with_reducible refine Below.setCell ?_ ?_ _) | (with_reducible refine below_drewN ?_ _) | (with_reducible refine Below.drew ?_) | (with_reducible refine below_step (by assumption) ?_ ?_) | omega | (simp; done) | (simp; omega)))) (U2.out.below (by repeat' (first | (with_reducible exact Below.refl _ _) | (with_reducible refine Below.alloc ?_ ?_ _) | (with_reducible refine Below.setCell ?_ ?_ _) | (with_reducible refine below_drewN ?_ _) | (with_reducible refine Below.drew ?_) | (with_reducible refine below_step (by assumption) ?_ ?_) | omega | (simp; done) | (simp; omega)))) M1.out L1.out P1.out).mono (fun _ _ h => RetQ.give h)).mono ?_); rintro e w3 ⟨u3, A3, n3, c3, B3, k3, d3, rfl, hu3, o3, b3⟩; obtain ⟨hc3, hf3⟩ := bxcell b3; have q3_0 := fun o => hc3 (w.heap.size) o (by first | omega | (simp; done) | (simp; omega)); have q3_1 := fun o => hc3 (w.heap.size + 1) o (by first | omega | (simp; done) | (simp; omega)); have f3_0 := fun o => hf3 (w.heap.size) o (by first | omega | (simp; done) | (simp; omega)); have f3_1 := fun o => hf3 (w.heap.size + 1) o (by first | omega | (simp; done) | (simp; omega)); have hz3 := b3.size; (try simp at hz3); have z3_0 : w.heap.size < w3.heap.size := (by omega); have n3_0 := Nat.ne_of_lt z3_0; have m3_0 := (Nat.ne_of_lt z3_0).symm; have z3_1 : w.heap.size + 1 < w3.heap.size := (by omega); have n3_1 := Nat.ne_of_lt z3_1; have m3_1 := (Nat.ne_of_lt z3_1).symm; have HU3 := Lib.hid hu3; have O3 := Lib.hid o3; clear hu3 o3
    go_wp2
    exact bodyPost_ret (v := .agg #[.bool u3, .slice A3 n3 c3, .slice B3 k3 d3]) (by simp [results, Try.results41, go_sem, *]) rfl (GiveQ.to HR.out HU3.out (PairR.wide (lo := w1.heap.size) (hi := w3.heap.size) ((by have hfar := O3.out; repeat' (first | (with_reducible exact hfar) | (with_reducible refine PairR.far ?_ _ _ ?_) | (with_reducible refine PairR.allocd ?_ _ ?_) | (left; first | omega | (simp; done) | (simp; omega)) | (right; first | omega | (simp; done) | (simp; omega)) | omega | (simp; done) | (simp; omega) | (exact hfar)))) (by first | omega | (simp; done) | (simp; omega)) (by first | omega | (simp; done) | (simp; omega))) (by repeat' (first | (with_reducible exact Below.refl _ _) | (with_reducible refine Below.alloc ?_ ?_ _) | (with_reducible refine Below.setCell ?_ ?_ _) | (with_reducible refine below_drewN ?_ _) | (with_reducible refine Below.drew ?_) | (with_reducible refine below_step (by assumption) ?_ ?_) | omega | (simp; done) | (simp; omega))))
set_option maxHeartbeats 2000000 in
theorem impl_ratSign (s : Bool) (A1 B1 : Option Addr) (n1 c1 k1 d1 : Nat) (m1 l1 : Nat) (w : World) (u1 : Sl w (.slice A1 n1 c1) (toL m1)) (u2 : Sl w (.slice B1 k1 d1) (toL l1)) (hm1 : m1 < pw 24) (h01 : 0 < l1) :
    Calls Try.prog 69 #[.agg #[.bool s, .slice A1 n1 c1, .slice B1 k1 d1]] w fun e w' => e = .returned (.int .i64 (sgnF s m1)) ∧ Below w.heap.size w w' := by
  have U2 := Lib.hid u2
  have P1 := Lib.hid h01
  obtain rfl := u1.len
  have hlm : (toL m1).length ≤ 24 := toL_len_lt hm1
  clear u1 u2 hm1 h01
  rcases Nat.eq_zero_or_pos m1 with h0 | h0
  · subst h0
    have HZ := Lib.hid (sgnF_zero s)
    have hz0 : (toL 0).length = 0 := by rw [toL_zero]; rfl
    have hb : (((toL 0).length : Int) == 0) = true := beq_iff_eq.2 (by omega)
    clear hz0
    go_enter Try.func69, Try.ntmps69
    go_wp2_with fail
    (with_reducible refine (impl_good s A1 B1 _ c1 k1 d1 l1 _ (U2.out.below (by repeat' (first | (with_reducible exact Below.refl _ _) | (with_reducible refine Below.alloc ?_ ?_ _) | (with_reducible refine Below.setCell ?_ ?_ _) | (with_reducible refine below_drewN ?_ _) | (with_reducible refine Below.drew ?_) | (with_reducible refine below_step (by assumption) ?_ ?_) | omega | (simp; done) | (simp; omega)))) P1.out).mono ?_); rintro e w1 ⟨rfl, b1⟩; obtain ⟨hc1, hf1⟩ := bxcell b1; have q1_0 := fun o => hc1 (w.heap.size) o (by first | omega | (simp; done) | (simp; omega)); have f1_0 := fun o => hf1 (w.heap.size) o (by first | omega | (simp; done) | (simp; omega)); have hz1 := b1.size; (try simp at hz1); have z1_0 : w.heap.size < w1.heap.size := (by omega); have n1_0 := Nat.ne_of_lt z1_0; have m1_0 := (Nat.ne_of_lt z1_0).symm
    go_wp2
    go_ret
    exact ⟨by rw [HZ.out]; rfl, (by repeat' (first | (with_reducible exact Below.refl _ _) | (with_reducible refine Below.alloc ?_ ?_ _) | (with_reducible refine Below.setCell ?_ ?_ _) | (with_reducible refine below_drewN ?_ _) | (with_reducible refine Below.drew ?_) | (with_reducible refine below_step (by assumption) ?_ ?_) | omega | (simp; done) | (simp; omega)))⟩
  · have hp := toL_len_pos h0
    have hb : (((toL m1).length : Int) == 0) = false := beq_eq_false_iff_ne.2 (by omega)
    have HZ := Lib.hid (sgnF_pos (s := s) h0)
    clear h0 hp
    cases s
    all_goals
      go_enter Try.func69, Try.ntmps69
      go_wp2_with fail
      (with_reducible refine (impl_good _ A1 B1 _ c1 k1 d1 l1 _ (U2.out.below (by repeat' (first | (with_reducible exact Below.refl _ _) | (with_reducible refine Below.alloc ?_ ?_ _) | (with_reducible refine Below.setCell ?_ ?_ _) | (with_reducible refine below_drewN ?_ _) | (with_reducible refine Below.drew ?_) | (with_reducible refine below_step (by assumption) ?_ ?_) | omega | (simp; done) | (simp; omega)))) P1.out).mono ?_); rintro e w1 ⟨rfl, b1⟩; obtain ⟨hc1, hf1⟩ := bxcell b1; have q1_0 := fun o => hc1 (w.heap.size) o (by first | omega | (simp; done) | (simp; omega)); have f1_0 := fun o => hf1 (w.heap.size) o (by first | omega | (simp; done) | (simp; omega)); have hz1 := b1.size; (try simp at hz1); have z1_0 : w.heap.size < w1.heap.size := (by omega); have n1_0 := Nat.ne_of_lt z1_0; have m1_0 := (Nat.ne_of_lt z1_0).symm
      go_wp2
      go_ret
      exact ⟨by rw [HZ.out]; rfl, (by repeat' (first | (with_reducible exact Below.refl _ _) | (with_reducible refine Below.alloc ?_ ?_ _) | (with_reducible refine Below.setCell ?_ ?_ _) | (with_reducible refine below_drewN ?_ _) | (with_reducible refine Below.drew ?_) | (with_reducible refine below_step (by assumption) ?_ ?_) | omega | (simp; done) | (simp; omega)))⟩
set_option maxRecDepth 100000 in
set_option maxHeartbeats 8000000 in
theorem impl_RatSign (s : Bool) (A1 B1 : Option Addr) (n1 c1 k1 d1 : Nat) (xs ys : List Int) (w : World) (u1 : Sl w (.slice A1 n1 c1) xs) (u2 : Sl w (.slice B1 k1 d1) ys) :
    Calls Try.prog 32 #[.agg #[.bool s, .slice A1 n1 c1, .slice B1 k1 d1]] w (fun e w' => e = .returned (.int .i64 (ratSignF s xs ys)) ∧ Below w.heap.size w w') := by
  have U1 := Lib.hid u1
  have U2 := Lib.hid u2
  obtain rfl := u1.len
  clear u1 u2
  have zz : w.heap.size < w.heap.size + 1 + 1 := by omega
  have nn := Nat.ne_of_lt zz
  have mm := (Nat.ne_of_lt zz).symm
  cases hx : ratOkB s xs ys with
  | false =>
    have HR := Lib.hid (show ratSignF s xs ys = 0 by unfold ratSignF; rw [hx]; rfl)
    go_enter Try.func32, Try.ntmps32
    go_wp2_with fail
    (with_reducible refine (impl_RatOk s A1 B1 _ c1 k1 d1 _ _ _ (U1.out.below (by repeat' (first | (with_reducible exact Below.refl _ _) | (with_reducible refine Below.alloc ?_ ?_ _) | (with_reducible refine Below.setCell ?_ ?_ _) | (with_reducible refine below_drewN ?_ _) | (with_reducible refine Below.drew ?_) | (with_reducible refine below_step (by assumption) ?_ ?_) | omega | (simp; done) | (simp; omega)))) (U2.out.below (by repeat' (first | (with_reducible exact Below.refl _ _) | (with_reducible refine Below.alloc ?_ ?_ _) | (with_reducible refine Below.setCell ?_ ?_ _) | (with_reducible refine below_drewN ?_ _) | (with_reducible refine Below.drew ?_) | (with_reducible refine below_step (by assumption) ?_ ?_) | omega | (simp; done) | (simp; omega))))).mono ?_); rintro e w1 ⟨rfl, b1⟩; obtain ⟨hc1, hf1⟩ := bxcell b1; have q1_0 := fun o => hc1 (w.heap.size) o (by first | omega | (simp; done) | (simp; omega)); have f1_0 := fun o => hf1 (w.heap.size) o (by first | omega | (simp; done) | (simp; omega)); have hz1 := b1.size; (try simp at hz1); have z1_0 : w.heap.size < w1.heap.size := (by omega); have n1_0 := Nat.ne_of_lt z1_0; have m1_0 := (Nat.ne_of_lt z1_0).symm
    rw [hx]
    go_wp2
    go_ret
    exact ⟨by rw [HR.out]; rfl, (by repeat' (first | (with_reducible exact Below.refl _ _) | (with_reducible refine Below.alloc ?_ ?_ _) | (with_reducible refine Below.setCell ?_ ?_ _) | (with_reducible refine below_drewN ?_ _) | (with_reducible refine Below.drew ?_) | (with_reducible refine below_step (by assumption) ?_ ?_) | omega | (simp; done) | (simp; omega)))⟩
  | true =>
    have HX := Lib.hid hx
    obtain ⟨m1, l1, rfl, rfl, hm1, h01, hl1, hg1, hs1⟩ := ratOk_iff hx
    have HR := Lib.hid (show ratSignF s (toL m1) (toL l1) = sgnF s m1 by unfold ratSignF; rw [hx]; simp only [dv_toL]; rfl)
    have M1 := Lib.hid hm1
    have L1 := Lib.hid hl1
    have P1 := Lib.hid h01
    have S1 := Lib.hid hs1
    have hlm : (toL m1).length ≤ 24 := toL_len_lt hm1
    clear hm1 hl1 h01 hs1 hg1 hx
    go_enter Try.func32, Try.ntmps32
    go_wp2_with fail
    (with_reducible refine (impl_RatOk s A1 B1 _ c1 k1 d1 _ _ _ (U1.out.below (by repeat' (first | (with_reducible exact Below.refl _ _) | (with_reducible refine Below.alloc ?_ ?_ _) | (with_reducible refine Below.setCell ?_ ?_ _) | (with_reducible refine below_drewN ?_ _) | (with_reducible refine Below.drew ?_) | (with_reducible refine below_step (by assumption) ?_ ?_) | omega | (simp; done) | (simp; omega)))) (U2.out.below (by repeat' (first | (with_reducible exact Below.refl _ _) | (with_reducible refine Below.alloc ?_ ?_ _) | (with_reducible refine Below.setCell ?_ ?_ _) | (with_reducible refine below_drewN ?_ _) | (with_reducible refine Below.drew ?_) | (with_reducible refine below_step (by assumption) ?_ ?_) | omega | (simp; done) | (simp; omega))))).mono ?_); rintro e w1 ⟨rfl, b1⟩; obtain ⟨hc1, hf1⟩ := bxcell b1; have q1_0 := fun o => hc1 (w.heap.size) o (by first | omega | (simp; done) | (simp; omega)); have f1_0 := fun o => hf1 (w.heap.size) o (by first | omega | (simp; done) | (simp; omega)); have hz1 := b1.size; (try simp at hz1); have z1_0 : w.heap.size < w1.heap.size := (by omega); have n1_0 := Nat.ne_of_lt z1_0; have m1_0 := (Nat.ne_of_lt z1_0).symm
    rw [HX.out]
    go_wp2_with fail
    (with_reducible refine (impl_ratSign s A1 B1 _ c1 k1 d1 m1 l1 _ (U1.out.below (by repeat' (first | (with_reducible exact Below.refl _ _) | (with_reducible refine Below.alloc ?_ ?_ _) | (with_reducible refine Below.setCell ?_ ?_ _) | (with_reducible refine below_drewN ?_ _) | (with_reducible refine Below.drew ?_) | (with_reducible refine below_step (by assumption) ?_ ?_) | omega | (simp; done) | (simp; omega)))) (U2.out.below (by repeat' (first | (with_reducible exact Below.refl _ _) | (with_reducible refine Below.alloc ?_ ?_ _) | (with_reducible refine Below.setCell ?_ ?_ _) | (with_reducible refine below_drewN ?_ _) | (with_reducible refine Below.drew ?_) | (with_reducible refine below_step (by assumption) ?_ ?_) | omega | (simp; done) | (simp; omega)))) M1.out P1.out).mono ?_); rintro e w2 ⟨rfl, b2⟩; obtain ⟨hc2, hf2⟩ := bxcell b2; have q2_0 := fun o => hc2 (w.heap.size) o (by first | omega | (simp; done) | (simp; omega)); have f2_0 := fun o => hf2 (w.heap.size) o (by first | omega | (simp; done) | (simp; omega)); have hz2 := b2.size; (try simp at hz2); have z2_0 : w.heap.size < w2.heap.size := (by omega); have n2_0 := Nat.ne_of_lt z2_0; have m2_0 := (Nat.ne_of_lt z2_0).symm
    go_wp2
    go_ret
    exact ⟨by rw [HR.out]; rfl, (by repeat' (first | (with_reducible exact Below.refl _ _) | (with_reducible refine Below.alloc ?_ ?_ _) | (with_reducible refine Below.setCell ?_ ?_ _) | (with_reducible refine below_drewN ?_ _) | (with_reducible refine Below.drew ?_) | (with_reducible refine below_step (by assumption) ?_ ?_) | omega | (simp; done) | (simp; omega)))⟩
set_option maxRecDepth 100000 in
set_option maxHeartbeats 8000000 in
theorem spec_RatSign (s : Bool) (A1 B1 : Option Addr) (n1 c1 k1 d1 : Nat) (xs ys : List Int) (w : World) (u1 : Sl w (.slice A1 n1 c1) xs) (u2 : Sl w (.slice B1 k1 d1) ys) :
    Calls Try.prog 31 #[.agg #[.bool s, .slice A1 n1 c1, .slice B1 k1 d1]] w (fun e w' => e = .returned (.int .i64 (ratSignF s xs ys)) ∧ Below w.heap.size w w') := by
  have U1 := Lib.hid u1
  have U2 := Lib.hid u2
  obtain rfl := u1.len
  clear u1 u2
  have zz : w.heap.size < w.heap.size + 1 + 1 := by omega
  have nn := Nat.ne_of_lt zz
  have mm := (Nat.ne_of_lt zz).symm
  cases hx : ratOkB s xs ys with
  | false =>
    have HR := Lib.hid (show ratSignF s xs ys = 0 by unfold ratSignF; rw [hx]; rfl)
    go_enter Try.func31, Try.ntmps31
    go_wp2_with fail
    (with_reducible refine (spec_RatOk s A1 B1 _ c1 k1 d1 _ _ _ (U1.out.below (by repeat' (first | (with_reducible exact Below.refl _ _) | (with_reducible refine Below.alloc ?_ ?_ _) | (with_reducible refine Below.setCell ?_ ?_ _) | (with_reducible refine below_drewN ?_ _) | (with_reducible refine Below.drew ?_) | (with_reducible refine below_step (by assumption) ?_ ?_) | omega | (simp; done) | (simp; omega)))) (U2.out.below (by repeat' (first | (with_reducible exact Below.refl _ _) | (with_reducible refine Below.alloc ?_ ?_ _) | (with_reducible refine Below.setCell ?_ ?_ _) | (with_reducible refine below_drewN ?_ _) | (with_reducible refine Below.drew ?_) | (with_reducible refine below_step (by assumption) ?_ ?_) | omega | (simp; done) | (simp; omega))))).mono ?_); rintro e w1 ⟨rfl, b1⟩; obtain ⟨hc1, hf1⟩ := bxcell b1; have q1_0 := fun o => hc1 (w.heap.size) o (by first | omega | (simp; done) | (simp; omega)); have f1_0 := fun o => hf1 (w.heap.size) o (by first | omega | (simp; done) | (simp; omega)); have hz1 := b1.size; (try simp at hz1); have z1_0 : w.heap.size < w1.heap.size := (by omega); have n1_0 := Nat.ne_of_lt z1_0; have m1_0 := (Nat.ne_of_lt z1_0).symm
    rw [hx]
    go_wp2
    go_ret
    exact ⟨by rw [HR.out]; rfl, (by repeat' (first | (with_reducible exact Below.refl _ _) | (with_reducible refine Below.alloc ?_ ?_ _) | (with_reducible refine Below.setCell ?_ ?_ _) | (with_reducible refine below_drewN ?_ _) | (with_reducible refine Below.drew ?_) | (with_reducible refine below_step (by assumption) ?_ ?_) | omega | (simp; done) | (simp; omega)))⟩
  | true =>
    have HX := Lib.hid hx
    obtain ⟨m1, l1, rfl, rfl, hm1, h01, hl1, hg1, hs1⟩ := ratOk_iff hx
    have HR := Lib.hid (show ratSignF s (toL m1) (toL l1) = sgnF s m1 by unfold ratSignF; rw [hx]; simp only [dv_toL]; rfl)
    have M1 := Lib.hid hm1
    have L1 := Lib.hid hl1
    have P1 := Lib.hid h01
    have S1 := Lib.hid hs1
    have hlm : (toL m1).length ≤ 24 := toL_len_lt hm1
    clear hm1 hl1 h01 hs1 hg1 hx
    rcases Nat.eq_zero_or_pos m1 with h0 | h0
    · subst h0
      have HZ := Lib.hid (sgnF_zero s)
      have hz0 : (toL 0).length = 0 := by rw [toL_zero]; rfl
      have hb : (((toL 0).length : Int) == 0) = true := beq_iff_eq.2 (by omega)
      clear hz0
      go_enter Try.func31, Try.ntmps31
      go_wp2_with fail
      (with_reducible refine (spec_RatOk s A1 B1 _ c1 k1 d1 _ _ _ (U1.out.below (by repeat' (first | (with_reducible exact Below.refl _ _) | (with_reducible refine Below.alloc ?_ ?_ _) | (with_reducible refine Below.setCell ?_ ?_ _) | (with_reducible refine below_drewN ?_ _) | (with_reducible refine Below.drew ?_) | (with_reducible refine below_step (by assumption) ?_ ?_) | omega | (simp; done) | (simp; omega)))) (U2.out.below (by repeat' (first | (with_reducible exact Below.refl _ _) | (with_reducible refine Below.alloc ?_ ?_ _) | (with_reducible refine Below.setCell ?_ ?_ _) | (with_reducible refine below_drewN ?_ _) | (with_reducible refine Below.drew ?_) | (with_reducible refine below_step (by assumption) ?_ ?_) | omega | (simp; done) | (simp; omega))))).mono ?_); rintro e w1 ⟨rfl, b1⟩; obtain ⟨hc1, hf1⟩ := bxcell b1; have q1_0 := fun o => hc1 (w.heap.size) o (by first | omega | (simp; done) | (simp; omega)); have f1_0 := fun o => hf1 (w.heap.size) o (by first | omega | (simp; done) | (simp; omega)); have hz1 := b1.size; (try simp at hz1); have z1_0 : w.heap.size < w1.heap.size := (by omega); have n1_0 := Nat.ne_of_lt z1_0; have m1_0 := (Nat.ne_of_lt z1_0).symm
      rw [HX.out]
      go_wp2
      go_ret
      exact ⟨by rw [HR.out, HZ.out]; rfl, (by repeat' (first | (with_reducible exact Below.refl _ _) | (with_reducible refine Below.alloc ?_ ?_ _) | (with_reducible refine Below.setCell ?_ ?_ _) | (with_reducible refine below_drewN ?_ _) | (with_reducible refine Below.drew ?_) | (with_reducible refine below_step (by assumption) ?_ ?_) | omega | (simp; done) | (simp; omega)))⟩
    · have hp := toL_len_pos h0
      have hb : (((toL m1).length : Int) == 0) = false := beq_eq_false_iff_ne.2 (by omega)
      have HZ := Lib.hid (sgnF_pos (s := s) h0)
      clear h0 hp
      cases s
      all_goals
        go_enter Try.func31, Try.ntmps31
        go_wp2_with fail
        (with_reducible refine (spec_RatOk _ A1 B1 _ c1 k1 d1 _ _ _ (U1.out.below (by repeat' (first | (with_reducible exact Below.refl _ _) | (with_reducible refine Below.alloc ?_ ?_ _) | (with_reducible refine Below.setCell ?_ ?_ _) | (with_reducible refine below_drewN ?_ _) | (with_reducible refine Below.drew ?_) | (with_reducible refine below_step (by assumption) ?_ ?_) | omega | (simp; done) | (simp; omega)))) (U2.out.below (by repeat' (first | (with_reducible exact Below.refl _ _) | (with_reducible refine Below.alloc ?_ ?_ _) | (with_reducible refine Below.setCell ?_ ?_ _) | (with_reducible refine below_drewN ?_ _) | (with_reducible refine Below.drew ?_) | (with_reducible refine below_step (by assumption) ?_ ?_) | omega | (simp; done) | (simp; omega))))).mono ?_); rintro e w1 ⟨rfl, b1⟩; obtain ⟨hc1, hf1⟩ := bxcell b1; have q1_0 := fun o => hc1 (w.heap.size) o (by first | omega | (simp; done) | (simp; omega)); have f1_0 := fun o => hf1 (w.heap.size) o (by first | omega | (simp; done) | (simp; omega)); have hz1 := b1.size; (try simp at hz1); have z1_0 : w.heap.size < w1.heap.size := (by omega); have n1_0 := Nat.ne_of_lt z1_0; have m1_0 := (Nat.ne_of_lt z1_0).symm
        rw [HX.out]
        go_wp2
        go_ret
        exact ⟨by rw [HR.out, HZ.out]; rfl, (by repeat' (first | (with_reducible exact Below.refl _ _) | (with_reducible refine Below.alloc ?_ ?_ _) | (with_reducible refine Below.setCell ?_ ?_ _) | (with_reducible refine below_drewN ?_ _) | (with_reducible refine Below.drew ?_) | (with_reducible refine below_step (by assumption) ?_ ?_) | omega | (simp; done) | (simp; omega)))⟩
set_option maxRecDepth 100000 in
set_option maxHeartbeats 8000000 in
theorem impl_RatMax (s t : Bool) (A1 B1 A2 B2 : Option Addr) (n1 c1 k1 d1 n2 c2 k2 d2 : Nat) (xs ys us vs : List Int) (w : World) (u1 : Sl w (.slice A1 n1 c1) xs) (u2 : Sl w (.slice B1 k1 d1) ys) (v1 : Sl w (.slice A2 n2 c2) us) (v2 : Sl w (.slice B2 k2 d2) vs) :
    Calls Try.prog 52 #[.agg #[.bool s, .slice A1 n1 c1, .slice B1 k1 d1], .agg #[.bool t, .slice A2 n2 c2, .slice B2 k2 d2]] w (RetQ (ratMaxF s t xs ys us vs) w) := by
  have U1 := Lib.hid u1
  have U2 := Lib.hid u2
  have V1 := Lib.hid v1
  have V2 := Lib.hid v2
  clear u1 u2 v1 v2
  have zz : w.heap.size < w.heap.size + 1 + 1 := by omega
  have nn := Nat.ne_of_lt zz
  have mm := (Nat.ne_of_lt zz).symm
  cases hx : ratOkB s xs ys with
  | false =>
    have HR := Lib.hid (show ratMaxF s t xs ys us vs = (0, 0) by unfold ratMaxF ratPick; rw [hx]; rfl)
    go_enter Try.func52, Try.ntmps52
    go_wp2_with fail
    (with_reducible refine (impl_RatOk s A1 B1 n1 c1 k1 d1 _ _ _ (U1.out.below (by repeat' (first | (with_reducible exact Below.refl _ _) | (with_reducible refine Below.alloc ?_ ?_ _) | (with_reducible refine Below.setCell ?_ ?_ _) | (with_reducible refine below_drewN ?_ _) | (with_reducible refine Below.drew ?_) | (with_reducible refine below_step (by assumption) ?_ ?_) | omega | (simp; done) | (simp; omega)))) (U2.out.below (by repeat' (first | (with_reducible exact Below.refl _ _) | (with_reducible refine Below.alloc ?_ ?_ _) | (with_reducible refine Below.setCell ?_ ?_ _) | (with_reducible refine below_drewN ?_ _) | (with_reducible refine Below.drew ?_) | (with_reducible refine below_step (by assumption) ?_ ?_) | omega | (simp; done) | (simp; omega))))).mono ?_); rintro e w1 ⟨rfl, b1⟩; obtain ⟨hc1, hf1⟩ := bxcell b1; have q1_0 := fun o => hc1 (w.heap.size) o (by first | omega | (simp; done) | (simp; omega)); have q1_1 := fun o => hc1 (w.heap.size + 1) o (by first | omega | (simp; done) | (simp; omega)); have q1_2 := fun o => hc1 (w.heap.size + 1 + 1) o (by first | omega | (simp; done) | (simp; omega)); have f1_0 := fun o => hf1 (w.heap.size) o (by first | omega | (simp; done) | (simp; omega)); have f1_1 := fun o => hf1 (w.heap.size + 1) o (by first | omega | (simp; done) | (simp; omega)); have f1_2 := fun o => hf1 (w.heap.size + 1 + 1) o (by first | omega | (simp; done) | (simp; omega)); have hz1 := b1.size; (try simp at hz1); have z1_0 : w.heap.size < w1.heap.size := (by omega); have n1_0 := Nat.ne_of_lt z1_0; have m1_0 := (Nat.ne_of_lt z1_0).symm; have z1_1 : w.heap.size + 1 < w1.heap.size := (by omega); have n1_1 := Nat.ne_of_lt z1_1; have m1_1 := (Nat.ne_of_lt z1_1).symm; have z1_2 : w.heap.size + 1 + 1 < w1.heap.size := (by omega); have n1_2 := Nat.ne_of_lt z1_2; have m1_2 := (Nat.ne_of_lt z1_2).symm
    rw [hx]
    go_wp2
    exact bodyPost_ret (v := .agg #[.bool false, .slice none 0 0, .slice none 0 0]) (by simp [results, Try.results52, go_sem, *]) rfl (retq_zero HR.out (by repeat' (first | (with_reducible exact Below.refl _ _) | (with_reducible refine Below.alloc ?_ ?_ _) | (with_reducible refine Below.setCell ?_ ?_ _) | (with_reducible refine below_drewN ?_ _) | (with_reducible refine Below.drew ?_) | (with_reducible refine below_step (by assumption) ?_ ?_) | omega | (simp; done) | (simp; omega))))
  | true =>
  cases hy : ratOkB t us vs with
  | false =>
    have HR := Lib.hid (show ratMaxF s t xs ys us vs = (0, 0) by unfold ratMaxF ratPick; rw [hx, hy]; rfl)
    go_enter Try.func52, Try.ntmps52
    go_wp2_with fail
    (with_reducible refine (impl_RatOk s A1 B1 n1 c1 k1 d1 _ _ _ (U1.out.below (by repeat' (first | (with_reducible exact Below.refl _ _) | (with_reducible refine Below.alloc ?_ ?_ _) | (with_reducible refine Below.setCell ?_ ?_ _) | (with_reducible refine below_drewN ?_ _) | (with_reducible refine Below.drew ?_) | (with_reducible refine below_step (by assumption) ?_ ?_) | omega | (simp; done) | (simp; omega)))) (U2.out.below (by repeat' (first | (with_reducible exact Below.refl _ _) | (with_reducible refine Below.alloc ?_ ?_ _) | (with_reducible refine Below.setCell ?_ ?_ _) | (with_reducible refine below_drewN ?_ _) | (with_reducible refine Below.drew ?_) | (with_reducible refine below_step (by assumption) ?_ ?_) | omega | (simp; done) | (simp; omega))))).mono ?_); rintro e w1 ⟨rfl, b1⟩; obtain ⟨hc1, hf1⟩ := bxcell b1; have q1_0 := fun o => hc1 (w.heap.size) o (by first | omega | (simp; done) | (simp; omega)); have q1_1 := fun o => hc1 (w.heap.size + 1) o (by first | omega | (simp; done) | (simp; omega)); have q1_2 := fun o => hc1 (w.heap.size + 1 + 1) o (by first | omega | (simp; done) | (simp; omega)); have f1_0 := fun o => hf1 (w.heap.size) o (by first | omega | (simp; done) | (simp; omega)); have f1_1 := fun o => hf1 (w.heap.size + 1) o (by first | omega | (simp; done) | (simp; omega)); have f1_2 := fun o => hf1 (w.heap.size + 1 + 1) o (by first | omega | (simp; done) | (simp; omega)); have hz1 := b1.size; (try simp at hz1); have z1_0 : w.heap.size < w1.heap.size := (by omega); have n1_0 := Nat.ne_of_lt z1_0; have m1_0 := (Nat.ne_of_lt z1_0).symm; have z1_1 : w.heap.size + 1 < w1.heap.size := (by omega); have n1_1 := Nat.ne_of_lt z1_1; have m1_1 := (Nat.ne_of_lt z1_1).symm; have z1_2 : w.heap.size + 1 + 1 < w1.heap.size := (by omega); have n1_2 := Nat.ne_of_lt z1_2; have m1_2 := (Nat.ne_of_lt z1_2).symm
    rw [hx]
    go_wp2_with fail
    (with_reducible refine (impl_RatOk t A2 B2 n2 c2 k2 d2 _ _ _ (V1.out.below (by repeat' (first | (with_reducible exact Below.refl _ _) | (with_reducible refine Below.alloc ?_ ?_ _) | (with_reducible refine Below.setCell ?_ ?_ _) | (with_reducible refine below_drewN ?_ _) | (with_reducible refine Below.drew ?_) | (with_reducible refine below_step (by assumption) ?_ ?_) | omega | (simp; done) | (simp; omega)))) (V2.out.below (by repeat' (first | (with_reducible exact Below.refl _ _) | (with_reducible refine Below.alloc ?_ ?_ _) | (with_reducible refine Below.setCell ?_ ?_ _) | (with_reducible refine below_drewN ?_ _) | (with_reducible refine Below.drew ?_) | (with_reducible refine below_step (by assumption) ?_ ?_) | omega | (simp; done) | (simp; omega))))).mono ?_); rintro e w2 ⟨rfl, b2⟩; obtain ⟨hc2, hf2⟩ := bxcell b2; have q2_0 := fun o => hc2 (w.heap.size) o (by first | omega | (simp; done) | (simp; omega)); have q2_1 := fun o => hc2 (w.heap.size + 1) o (by first | omega | (simp; done) | (simp; omega)); have q2_2 := fun o => hc2 (w.heap.size + 1 + 1) o (by first | omega | (simp; done) | (simp; omega)); have f2_0 := fun o => hf2 (w.heap.size) o (by first | omega | (simp; done) | (simp; omega)); have f2_1 := fun o => hf2 (w.heap.size + 1) o (by first | omega | (simp; done) | (simp; omega)); have f2_2 := fun o => hf2 (w.heap.size + 1 + 1) o (by first | omega | (simp; done) | (simp; omega)); have hz2 := b2.size; (try simp at hz2); have z2_0 : w.heap.size < w2.heap.size := (by omega); have n2_0 := Nat.ne_of_lt z2_0; have m2_0 := (Nat.ne_of_lt z2_0).symm; have z2_1 : w.heap.size + 1 < w2.heap.size := (by omega); have n2_1 := Nat.ne_of_lt z2_1; have m2_1 := (Nat.ne_of_lt z2_1).symm; have z2_2 : w.heap.size + 1 + 1 < w2.heap.size := (by omega); have n2_2 := Nat.ne_of_lt z2_2; have m2_2 := (Nat.ne_of_lt z2_2).symm
    rw [hy]
    go_wp2
    exact bodyPost_ret (v := .agg #[.bool false, .slice none 0 0, .slice none 0 0]) (by simp [results, Try.results52, go_sem, *]) rfl (retq_zero HR.out (by repeat' (first | (with_reducible exact Below.refl _ _) | (with_reducible refine Below.alloc ?_ ?_ _) | (with_reducible refine Below.setCell ?_ ?_ _) | (with_reducible refine below_drewN ?_ _) | (with_reducible refine Below.drew ?_) | (with_reducible refine below_step (by assumption) ?_ ?_) | omega | (simp; done) | (simp; omega))))
  | true =>
    have HX := Lib.hid hx
    have HY := Lib.hid hy
    obtain ⟨m1, l1, rfl, rfl, hm1, h01, hl1, hg1, hs1⟩ := ratOk_iff hx
    obtain ⟨m2, l2, rfl, rfl, hm2, h02, hl2, hg2, hs2⟩ := ratOk_iff hy
    have HR := Lib.hid (show ratMaxF s t (toL m1) (toL l1) (toL m2) (toL l2) = if decide (0 ≤ ratCmpF s t (toL m1) (toL l1) (toL m2) (toL l2)) = true then (bigZ s m1, l1) else (bigZ t m2, l2) by unfold ratMaxF ratPick; rw [hx, hy]; simp only [zv_toL, dv_toL]; rfl)
    have M1 := Lib.hid hm1
    have L1 := Lib.hid hl1
    have M2 := Lib.hid hm2
    have L2 := Lib.hid hl2
    have P1 := Lib.hid h01
    have P2 := Lib.hid h02
    have S1 := Lib.hid hs1
    have S2 := Lib.hid hs2
    clear hm1 hl1 hm2 hl2 h01 h02 hs1 hs2 hg1 hg2 hx hy
    go_enter Try.func52, Try.ntmps52
    go_wp2_with fail
    (with_reducible refine (impl_RatOk s A1 B1 n1 c1 k1 d1 _ _ _ (U1.out.below (by repeat' (first | (with_reducible exact Below.refl _ _) | (with_reducible refine Below.alloc ?_ ?_ _) | (with_reducible refine Below.setCell ?_ ?_ _) | (with_reducible refine below_drewN ?_ _) | (with_reducible refine Below.drew ?_) | (with_reducible refine below_step (by assumption) ?_ ?_) | omega | (simp; done) | (simp; omega)))) (U2.out.below (by repeat' (first | (with_reducible exact Below.refl _ _) | (with_reducible refine Below.alloc ?_ ?_ _) | (with_reducible refine Below.setCell ?_ ?_ _) | (with_reducible refine below_drewN ?_ _) | (with_reducible refine Below.drew ?_) | (with_reducible refine below_step (by assumption) ?_ ?_) | omega | (simp; done) | (simp; omega))))).mono ?_); rintro e w1 ⟨rfl, b1⟩; obtain ⟨hc1, hf1⟩ := bxcell b1; have q1_0 := fun o => hc1 (w.heap.size) o (by first | omega | (simp; done) | (simp; omega)); have q1_1 := fun o => hc1 (w.heap.size + 1) o (by first | omega | (simp; done) | (simp; omega)); have q1_2 := fun o => hc1 (w.heap.size + 1 + 1) o (by first | omega | (simp; done) | (simp; omega)); have f1_0 := fun o => hf1 (w.heap.size) o (by first | omega | (simp; done) | (simp; omega)); have f1_1 := fun o => hf1 (w.heap.size + 1) o (by first | omega | (simp; done) | (simp; omega)); have f1_2 := fun o => hf1 (w.heap.size + 1 + 1) o (by first | omega | (simp; done) | (simp; omega)); have hz1 := b1.size; (try simp at hz1); have z1_0 : w.heap.size < w1.heap.size := (by omega); have n1_0 := Nat.ne_of_lt z1_0; have m1_0 := (Nat.ne_of_lt z1_0).symm; have z1_1 : w.heap.size + 1 < w1.heap.size := (by omega); have n1_1 := Nat.ne_of_lt z1_1; have m1_1 := (Nat.ne_of_lt z1_1).symm; have z1_2 : w.heap.size + 1 + 1 < w1.heap.size := (by omega); have n1_2 := Nat.ne_of_lt z1_2; have m1_2 := (Nat.ne_of_lt z1_2).symm
    rw [HX.out]
    go_wp2_with fail
    (with_reducible refine (impl_RatOk t A2 B2 n2 c2 k2 d2 _ _ _ (V1.out.below (by repeat' (first | (with_reducible exact Below.refl _ _) | (with_reducible refine Below.alloc ?_ ?_ _) | (with_reducible refine Below.setCell ?_ ?_ _) | (with_reducible refine below_drewN ?_ _) | (with_reducible refine Below.drew ?_) | (with_reducible refine below_step (by assumption) ?_ ?_) | omega | (simp; done) | (simp; omega)))) (V2.out.below (by repeat' (first | (with_reducible exact Below.refl _ _) | (with_reducible refine Below.alloc ?_ ?_ _) | (with_reducible refine Below.setCell ?_ ?_ _) | (with_reducible refine below_drewN ?_ _) | (with_reducible refine Below.drew ?_) | (with_reducible refine below_step (by assumption) ?_ ?_) | omega | (simp; done) | (simp; omega))))).mono ?_); rintro e w2 ⟨rfl, b2⟩; obtain ⟨hc2, hf2⟩ := bxcell b2; have q2_0 := fun o => hc2 (w.heap.size) o (by first | omega | (simp; done) | (simp; omega)); have q2_1 := fun o => hc2 (w.heap.size + 1) o (by first | omega | (simp; done) | (simp; omega)); have q2_2 := fun o => hc2 (w.heap.size + 1 + 1) o (by first | omega | (simp; done) | (simp; omega)); have f2_0 := fun o => hf2 (w.heap.size) o (by first | omega | (simp; done) | (simp; omega)); have f2_1 := fun o => hf2 (w.heap.size + 1) o (by first | omega | (simp; done) | (simp; omega)); have f2_2 := fun o => hf2 (w.heap.size + 1 + 1) o (by first | omega | (simp; done) | (simp; omega)); have hz2 := b2.size; (try simp at hz2); have z2_0 : w.heap.size < w2.heap.size := (by omega); have n2_0 := Nat.ne_of_lt z2_0; have m2_0 := (Nat.ne_of_lt z2_0).symm; have z2_1 : w.heap.size + 1 < w2.heap.size := (by omega); have n2_1 := Nat.ne_of_lt z2_1; have m2_1 := (Nat.ne_of_lt z2_1).symm; have z2_2 : w.heap.size + 1 + 1 < w2.heap.size := (by omega); have n2_2 := Nat.ne_of_lt z2_2; have m2_2 := (Nat.ne_of_lt z2_2).symm
    rw [HY.out]
    go_wp2_with fail
    have HC := Lib.hid (show ratCmpF s t (toL m1) (toL l1) (toL m2) (toL l2) = cmpZ (bigZ s m1 * bigZ false l2) (bigZ t m2 * bigZ false l1) by unfold ratCmpF; rw [HX.out, HY.out]; simp only [zv_toL, dv_toL]; rfl)
    (with_reducible refine (impl_ratCmp s t A1 B1 A2 B2 n1 c1 k1 d1 n2 c2 k2 d2 m1 l1 m2 l2 _ (U1.out.below (by repeat' (first | (with_reducible exact Below.refl _ _) | (with_reducible refine Below.alloc ?_ ?_ _) | (with_reducible refine Below.setCell ?_ ?_ _) | (with_reducible refine below_drewN ?_ _) | (with_reducible refine Below.drew ?_) | (with_reducible refine below_step (by assumption) ?_ ?_) | omega | (simp; done) | (simp; omega)))) (U2.out.below (by repeat' (first | (with_reducible exact Below.refl _ _) | (with_reducible refine Below.alloc ?_ ?_ _) | (with_reducible refine Below.setCell ?_ ?_ _) | (with_reducible refine below_drewN ?_ _) | (with_reducible refine Below.drew ?_) | (with_reducible refine below_step (by assumption) ?_ ?_) | omega | (simp; done) | (simp; omega)))) (V1.out.below (by repeat' (first | (with_reducible exact Below.refl _ _) | (with_reducible refine Below.alloc ?_ ?_ _) | (with_reducible refine Below.setCell ?_ ?_ _) | (with_reducible refine below_drewN ?_ _) | (with_reducible refine Below.drew ?_) | (with_reducible refine below_step (by assumption) ?_ ?_) | omega | (simp; done) | (simp; omega)))) (V2.out.below (by repeat' (first | (with_reducible exact Below.refl _ _) | (with_reducible refine Below.alloc ?_ ?_ _) | (with_reducible refine Below.setCell ?_ ?_ _) | (with_reducible refine below_drewN ?_ _) | (with_reducible refine Below.drew ?_) | (with_reducible refine below_step (by assumption) ?_ ?_) | omega | (simp; done) | (simp; omega)))) M1.out L1.out M2.out L2.out P1.out P2.out).mono ?_); rintro e w3 ⟨rfl, b3⟩; obtain ⟨hc3, hf3⟩ := bxcell b3; have q3_0 := fun o => hc3 (w.heap.size) o (by first | omega | (simp; done) | (simp; omega)); have q3_1 := fun o => hc3 (w.heap.size + 1) o (by first | omega | (simp; done) | (simp; omega)); have q3_2 := fun o => hc3 (w.heap.size + 1 + 1) o (by first | omega | (simp; done) | (simp; omega)); have f3_0 := fun o => hf3 (w.heap.size) o (by first | omega | (simp; done) | (simp; omega)); have f3_1 := fun o => hf3 (w.heap.size + 1) o (by first | omega | (simp; done) | (simp; omega)); have f3_2 := fun o => hf3 (w.heap.size + 1 + 1) o (by first | omega | (simp; done) | (simp; omega)); have hz3 := b3.size; (try simp at hz3); have z3_0 : w.heap.size < w3.heap.size := (by omega); have n3_0 := Nat.ne_of_lt z3_0; have m3_0 := (Nat.ne_of_lt z3_0).symm; have z3_1 : w.heap.size + 1 < w3.heap.size := (by omega); have n3_1 := Nat.ne_of_lt z3_1; have m3_1 := (Nat.ne_of_lt z3_1).symm; have z3_2 : w.heap.size + 1 + 1 < w3.heap.size := (by omega); have n3_2 := Nat.ne_of_lt z3_2; have m3_2 := (Nat.ne_of_lt z3_2).symm
    rw [← HC.out]
    by_cases hcm : 0 ≤ ratCmpF s t (toL m1) (toL l1) (toL m2) (toL l2)
    · have HV := Lib.hid (HR.out.trans (if_pos (decide_eq_true hcm)))
      go_wp2_with fail
      (with_reducible refine (impl_copyRat s A1 B1 n1 c1 k1 d1 m1 l1 _ (U1.out.below (by repeat' (first | (with_reducible exact Below.refl _ _) | (with_reducible refine Below.alloc ?_ ?_ _) | (with_reducible refine Below.setCell ?_ ?_ _) | (with_reducible refine below_drewN ?_ _) | (with_reducible refine Below.drew ?_) | (with_reducible refine below_step (by assumption) ?_ ?_) | omega | (simp; done) | (simp; omega)))) (U2.out.below (by repeat' (first | (with_reducible exact Below.refl _ _) | (with_reducible refine Below.alloc ?_ ?_ _) | (with_reducible refine Below.setCell ?_ ?_ _) | (with_reducible refine below_drewN ?_ _) | (with_reducible refine Below.drew ?_) | (with_reducible refine below_step (by assumption) ?_ ?_) | omega | (simp; done) | (simp; omega)))) M1.out L1.out P1.out).mono ?_); rintro e w4 ⟨A4, n4, c4, B4, k4, d4, rfl, o4, b4⟩; obtain ⟨hc4, hf4⟩ := bxcell b4; have q4_0 := fun o => hc4 (w.heap.size) o (by first | omega | (simp; done) | (simp; omega)); have q4_1 := fun o => hc4 (w.heap.size + 1) o (by first | omega | (simp; done) | (simp; omega)); have q4_2 := fun o => hc4 (w.heap.size + 1 + 1) o (by first | omega | (simp; done) | (simp; omega)); have f4_0 := fun o => hf4 (w.heap.size) o (by first | omega | (simp; done) | (simp; omega)); have f4_1 := fun o => hf4 (w.heap.size + 1) o (by first | omega | (simp; done) | (simp; omega)); have f4_2 := fun o => hf4 (w.heap.size + 1 + 1) o (by first | omega | (simp; done) | (simp; omega)); have hz4 := b4.size; (try simp at hz4); have z4_0 : w.heap.size < w4.heap.size := (by omega); have n4_0 := Nat.ne_of_lt z4_0; have m4_0 := (Nat.ne_of_lt z4_0).symm; have z4_1 : w.heap.size + 1 < w4.heap.size := (by omega); have n4_1 := Nat.ne_of_lt z4_1; have m4_1 := (Nat.ne_of_lt z4_1).symm; have z4_2 : w.heap.size + 1 + 1 < w4.heap.size := (by omega); have n4_2 := Nat.ne_of_lt z4_2; have m4_2 := (Nat.ne_of_lt z4_2).symm; have O4 := Lib.hid o4; clear o4
      go_wp2
      exact bodyPost_ret (v := .agg #[.bool s, .slice A4 n4 c4, .slice B4 k4 d4]) (by simp [results, Try.results52, go_sem, *]) rfl (copy_q HV.out S1.out (PairR.wide (lo := w3.heap.size) (hi := w4.heap.size) ((by have hfar := O4.out; repeat' (first | (with_reducible exact hfar) | (with_reducible refine PairR.far ?_ _ _ ?_) | (with_reducible refine PairR.allocd ?_ _ ?_) | (left; first | omega | (simp; done) | (simp; omega)) | (right; first | omega | (simp; done) | (simp; omega)) | omega | (simp; done) | (simp; omega) | (exact hfar)))) (by first | omega | (simp; done) | (simp; omega)) (by first | omega | (simp; done) | (simp; omega))) (by repeat' (first | (with_reducible exact Below.refl _ _) | (with_reducible refine Below.alloc ?_ ?_ _) | (with_reducible refine Below.setCell ?_ ?_ _) | (with_reducible refine below_drewN ?_ _) | (with_reducible refine Below.drew ?_) | (with_reducible refine below_step (by assumption) ?_ ?_) | omega | (simp; done) | (simp; omega))))
    · have HV := Lib.hid (HR.out.trans (if_neg (by rw [decide_eq_false hcm]; simp)))
      go_wp2_with fail
      (with_reducible refine (impl_copyRat t A2 B2 n2 c2 k2 d2 m2 l2 _ (V1.out.below (by repeat' (first | (with_reducible exact Below.refl _ _) | (with_reducible refine Below.alloc ?_ ?_ _) | (with_reducible refine Below.setCell ?_ ?_ _) | (with_reducible refine below_drewN ?_ _) | (with_reducible refine Below.drew ?_) | (with_reducible refine below_step (by assumption) ?_ ?_) | omega | (simp; done) | (simp; omega)))) (V2.out.below (by repeat' (first | (with_reducible exact Below.refl _ _) | (with_reducible refine Below.alloc ?_ ?_ _) | (with_reducible refine Below.setCell ?_ ?_ _) | (with_reducible refine below_drewN ?_ _) | (with_reducible refine Below.drew ?_) | (with_reducible refine below_step (by assumption) ?_ ?_) | omega | (simp; done) | (simp; omega)))) M2.out L2.out P2.out).mono ?_); rintro e w4 ⟨A4, n4, c4, B4, k4, d4, rfl, o4, b4⟩; obtain ⟨hc4, hf4⟩ := bxcell b4; have q4_0 := fun o => hc4 (w.heap.size) o (by first | omega | (simp; done) | (simp; omega)); have q4_1 := fun o => hc4 (w.heap.size + 1) o (by first | omega | (simp; done) | (simp; omega)); have q4_2 := fun o => hc4 (w.heap.size + 1 + 1) o (by first | omega | (simp; done) | (simp; omega)); have f4_0 := fun o => hf4 (w.heap.size) o (by first | omega | (simp; done) | (simp; omega)); have f4_1 := fun o => hf4 (w.heap.size + 1) o (by first | omega | (simp; done) | (simp; omega)); have f4_2 := fun o => hf4 (w.heap.size + 1 + 1) o (by first | omega | (simp; done) | (simp; omega)); have hz4 := b4.size; (try simp at hz4); have z4_0 : w.heap.size < w4.heap.size := (by omega); have n4_0 := Nat.ne_of_lt z4_0; have m4_0 := (Nat.ne_of_lt z4_0).symm; have z4_1 : w.heap.size + 1 < w4.heap.size := (by omega); have n4_1 := Nat.ne_of_lt z4_1; have m4_1 := (Nat.ne_of_lt z4_1).symm; have z4_2 : w.heap.size + 1 + 1 < w4.heap.size := (by omega); have n4_2 := Nat.ne_of_lt z4_2; have m4_2 := (Nat.ne_of_lt z4_2).symm; have O4 := Lib.hid o4; clear o4
      go_wp2
      exact bodyPost_ret (v := .agg #[.bool t, .slice A4 n4 c4, .slice B4 k4 d4]) (by simp [results, Try.results52, go_sem, *]) rfl (copy_q HV.out S2.out (PairR.wide (lo := w3.heap.size) (hi := w4.heap.size) ((by have hfar := O4.out; repeat' (first | (with_reducible exact hfar) | (with_reducible refine PairR.far ?_ _ _ ?_) | (with_reducible refine PairR.allocd ?_ _ ?_) | (left; first | omega | (simp; done) | (simp; omega)) | (right; first | omega | (simp; done) | (simp; omega)) | omega | (simp; done) | (simp; omega) | (exact hfar)))) (by first | omega | (simp; done) | (simp; omega)) (by first | omega | (simp; done) | (simp; omega))) (by repeat' (first | (with_reducible exact Below.refl _ _) | (with_reducible refine Below.alloc ?_ ?_ _) | (with_reducible refine Below.setCell ?_ ?_ _) | (with_reducible refine below_drewN ?_ _) | (with_reducible refine Below.drew ?_) | (with_reducible refine below_step (by assumption) ?_ ?_) | omega | (simp; done) | (simp; omega))))
set_option maxRecDepth 100000 in
set_option maxHeartbeats 8000000 in
theorem spec_RatMax (s t : Bool) (A1 B1 A2 B2 : Option Addr) (n1 c1 k1 d1 n2 c2 k2 d2 : Nat) (xs ys us vs : List Int) (w : World) (u1 : Sl w (.slice A1 n1 c1) xs) (u2 : Sl w (.slice B1 k1 d1) ys) (v1 : Sl w (.slice A2 n2 c2) us) (v2 : Sl w (.slice B2 k2 d2) vs) :
    Calls Try.prog 51 #[.agg #[.bool s, .slice A1 n1 c1, .slice B1 k1 d1], .agg #[.bool t, .slice A2 n2 c2, .slice B2 k2 d2]] w (RetQ (ratMaxF s t xs ys us vs) w) := by
  have U1 := Lib.hid u1
  have U2 := Lib.hid u2
  have V1 := Lib.hid v1
  have V2 := Lib.hid v2
  clear u1 u2 v1 v2
  have zz : w.heap.size < w.heap.size + 1 + 1 := by omega
  have nn := Nat.ne_of_lt zz
  have mm := (Nat.ne_of_lt zz).symm
  cases hx : ratOkB s xs ys with
  | false =>
    have HR := Lib.hid (show ratMaxF s t xs ys us vs = (0, 0) by unfold ratMaxF ratPick; rw [hx]; rfl)
    go_enter Try.func51, Try.ntmps51
    go_wp2_with fail
    (with_reducible refine (spec_RatOk s A1 B1 n1 c1 k1 d1 _ _ _ (U1.out.below (by repeat' (first | (with_reducible exact Below.refl _ _) | (with_reducible refine Below.alloc ?_ ?_ _) | (with_reducible refine Below.setCell ?_ ?_ _) | (with_reducible refine below_drewN ?_ _) | (with_reducible refine Below.drew ?_) | (with_reducible refine below_step (by assumption) ?_ ?_) | omega | (simp; done) | (simp; omega)))) (U2.out.below (by repeat' (first | (with_reducible exact Below.refl _ _) | (with_reducible refine Below.alloc ?_ ?_ _) | (with_reducible refine Below.setCell ?_ ?_ _) | (with_reducible refine below_drewN ?_ _) | (with_reducible refine Below.drew ?_) | (with_reducible refine below_step (by assumption) ?_ ?_) | omega | (simp; done) | (simp; omega))))).mono ?_); rintro e w1 ⟨rfl, b1⟩; obtain ⟨hc1, hf1⟩ := bxcell b1; have q1_0 := fun o => hc1 (w.heap.size) o (by first | omega | (simp; done) | (simp; omega)); have q1_1 := fun o => hc1 (w.heap.size + 1) o (by first | omega | (simp; done) | (simp; omega)); have q1_2 := fun o => hc1 (w.heap.size + 1 + 1) o (by first | omega | (simp; done) | (simp; omega)); have f1_0 := fun o => hf1 (w.heap.size) o (by first | omega | (simp; done) | (simp; omega)); have f1_1 := fun o => hf1 (w.heap.size + 1) o (by first | omega | (simp; done) | (simp; omega)); have f1_2 := fun o => hf1 (w.heap.size + 1 + 1) o (by first | omega | (simp; done) | (simp; omega)); have hz1 := b1.size; (try simp at hz1); have z1_0 : w.heap.size < w1.heap.size := (by omega); have n1_0 := Nat.ne_of_lt z1_0; have m1_0 := (Nat.ne_of_lt z1_0).symm; have z1_1 : w.heap.size + 1 < w1.heap.size := (by omega); have n1_1 := Nat.ne_of_lt z1_1; have m1_1 := (Nat.ne_of_lt z1_1).symm; have z1_2 : w.heap.size + 1 + 1 < w1.heap.size := (by omega); have n1_2 := Nat.ne_of_lt z1_2; have m1_2 := (Nat.ne_of_lt z1_2).symm
    rw [hx]
    go_wp2
    exact bodyPost_ret (v := .agg #[.bool false, .slice none 0 0, .slice none 0 0]) (by simp [results, Try.results51, go_sem, *]) rfl (retq_zero HR.out (by repeat' (first | (with_reducible exact Below.refl _ _) | (with_reducible refine Below.alloc ?_ ?_ _) | (with_reducible refine Below.setCell ?_ ?_ _) | (with_reducible refine below_drewN ?_ _) | (with_reducible refine Below.drew ?_) | (with_reducible refine below_step (by assumption) ?_ ?_) | omega | (simp; done) | (simp; omega))))
  | true =>
  cases hy : ratOkB t us vs with
  | false =>
    have HR := Lib.hid (show ratMaxF s t xs ys us vs = (0, 0) by unfold ratMaxF ratPick; rw [hx, hy]; rfl)
    go_enter Try.func51, Try.ntmps51
    go_wp2_with fail
    (with_reducible refine (spec_RatOk s A1 B1 n1 c1 k1 d1 _ _ _ (U1.out.below (by repeat' (first | (with_reducible exact Below.refl _ _) | (with_reducible refine Below.alloc ?_ ?_ _) | (with_reducible refine Below.setCell ?_ ?_ _) | (with_reducible refine below_drewN ?_ _) | (with_reducible refine Below.drew ?_) | (with_reducible refine below_step (by assumption) ?_ ?_) | omega | (simp; done) | (simp; omega)))) (U2.out.below (by repeat' (first | (with_reducible exact Below.refl _ _) | (with_reducible refine Below.alloc ?_ ?_ _) | (with_reducible refine Below.setCell ?_ ?_ _) | (with_reducible refine below_drewN ?_ _) | (with_reducible refine Below.drew ?_) | (with_reducible refine below_step (by assumption) ?_ ?_) | omega | (simp; done) | (simp; omega))))).mono ?_); rintro e w1 ⟨rfl, b1⟩; obtain ⟨hc1, hf1⟩ := bxcell b1; have q1_0 := fun o => hc1 (w.heap.size) o (by first | omega | (simp; done) | (simp; omega)); have q1_1 := fun o => hc1 (w.heap.size + 1) o (by first | omega | (simp; done) | (simp; omega)); have q1_2 := fun o => hc1 (w.heap.size + 1 + 1) o (by first | omega | (simp; done) | (simp; omega)); have f1_0 := fun o => hf1 (w.heap.size) o (by first | omega | (simp; done) | (simp; omega)); have f1_1 := fun o => hf1 (w.heap.size + 1) o (by first | omega | (simp; done) | (simp; omega)); have f1_2 := fun o => hf1 (w.heap.size + 1 + 1) o (by first | omega | (simp; done) | (simp; omega)); have hz1 := b1.size; (try simp at hz1); have z1_0 : w.heap.size < w1.heap.size := (by omega); have n1_0 := Nat.ne_of_lt z1_0; have m1_0 := (Nat.ne_of_lt z1_0).symm; have z1_1 : w.heap.size + 1 < w1.heap.size := (by omega); have n1_1 := Nat.ne_of_lt z1_1; have m1_1 := (Nat.ne_of_lt z1_1).symm; have z1_2 : w.heap.size + 1 + 1 < w1.heap.size := (by omega); have n1_2 := Nat.ne_of_lt z1_2; have m1_2 := (Nat.ne_of_lt z1_2).symm
    rw [hx]
    go_wp2_with fail
    (with_reducible refine (spec_RatOk t A2 B2 n2 c2 k2 d2 _ _ _ (V1.out.below (by repeat' (first | (with_reducible exact Below.refl _ _) | (with_reducible refine Below.alloc ?_ ?_ _) | (with_reducible refine Below.setCell ?_ ?_ _) | (with_reducible refine below_drewN ?_ _) | (with_reducible refine Below.drew ?_) | (with_reducible refine below_step (by assumption) ?_ ?_) | omega | (simp; done) | (simp; omega)))) (V2.out.below (by repeat' (first | (with_reducible exact Below.refl _ _) | (with_reducible refine Below.alloc ?_ ?_ _) | (with_reducible refine Below.setCell ?_ ?_ _) | (with_reducible refine below_drewN ?_ _) | (with_reducible refine Below.drew ?_) | (with_reducible refine below_step (by assumption) ?_ ?_) | omega | (simp; done) | (simp; omega))))).mono ?_); rintro e w2 ⟨rfl, b2⟩; obtain ⟨hc2, hf2⟩ := bxcell b2; have q2_0 := fun o => hc2 (w.heap.size) o (by first | omega | (simp; done) | (simp; omega)); have q2_1 := fun o => hc2 (w.heap.size + 1) o (by first | omega | (simp; done) | (simp; omega)); have q2_2 := fun o => hc2 (w.heap.size + 1 + 1) o (by first | omega | (simp; done) | (simp; omega)); have f2_0 := fun o => hf2 (w.heap.size) o (by first | omega | (simp; done) | (simp; omega)); have f2_1 := fun o => hf2 (w.heap.size + 1) o (by first | omega | (simp; done) | (simp; omega)); have f2_2 := fun o => hf2 (w.heap.size + 1 + 1) o (by first | omega | (simp; done) | (simp; omega)); have hz2 := b2.size; (try simp at hz2); have z2_0 : w.heap.size < w2.heap.size := (by omega); have n2_0 := Nat.ne_of_lt z2_0; have m2_0 := (Nat.ne_of_lt z2_0).symm; have z2_1 : w.heap.size + 1 < w2.heap.size := (by omega); have n2_1 := Nat.ne_of_lt z2_1; have m2_1 := (Nat.ne_of_lt z2_1).symm; have z2_2 : w.heap.size + 1 + 1 < w2.heap.size := (by omega); have n2_2 := Nat.ne_of_lt z2_2; have m2_2 := (Nat.ne_of_lt z2_2).symm
    rw [hy]
    go_wp2
    exact bodyPost_ret (v := .agg #[.bool false, .slice none 0 0, .slice none 0 0]) (by simp [results, Try.results51, go_sem, *]) rfl (retq_zero HR.out (by repeat' (first | (with_reducible exact Below.refl _ _) | (with_reducible refine Below.alloc ?_ ?_ _) | (with_reducible refine Below.setCell ?_ ?_ _) | (with_reducible refine below_drewN ?_ _) | (with_reducible refine Below.drew ?_) | (with_reducible refine below_step (by assumption) ?_ ?_) | omega | (simp; done) | (simp; omega))))
  | true =>
    have HX := Lib.hid hx
    have HY := Lib.hid hy
    obtain ⟨m1, l1, rfl, rfl, hm1, h01, hl1, hg1, hs1⟩ := ratOk_iff hx
    obtain ⟨m2, l2, rfl, rfl, hm2, h02, hl2, hg2, hs2⟩ := ratOk_iff hy
    have HR := Lib.hid (show ratMaxF s t (toL m1) (toL l1) (toL m2) (toL l2) = if decide (0 ≤ ratCmpF s t (toL m1) (toL l1) (toL m2) (toL l2)) = true then (bigZ s m1, l1) else (bigZ t m2, l2) by unfold ratMaxF ratPick; rw [hx, hy]; simp only [zv_toL, dv_toL]; rfl)
    have M1 := Lib.hid hm1
    have L1 := Lib.hid hl1
    have M2 := Lib.hid hm2
    have L2 := Lib.hid hl2
    have P1 := Lib.hid h01
    have P2 := Lib.hid h02
    have S1 := Lib.hid hs1
    have S2 := Lib.hid hs2
    clear hm1 hl1 hm2 hl2 h01 h02 hs1 hs2 hg1 hg2 hx hy
    go_enter Try.func51, Try.ntmps51
    go_wp2_with fail
    (with_reducible refine (spec_RatOk s A1 B1 n1 c1 k1 d1 _ _ _ (U1.out.below (by repeat' (first | (with_reducible exact Below.refl _ _) | (with_reducible refine Below.alloc ?_ ?_ _) | (with_reducible refine Below.setCell ?_ ?_ _) | (with_reducible refine below_drewN ?_ _) | (with_reducible refine Below.drew ?_) | (with_reducible refine below_step (by assumption) ?_ ?_) | omega | (simp; done) | (simp; omega)))) (U2.out.below (by repeat' (first | (with_reducible exact Below.refl _ _) | (with_reducible refine Below.alloc ?_ ?_ _) | (with_reducible refine Below.setCell ?_ ?_ _) | (with_reducible refine below_drewN ?_ _) | (with_reducible refine Below.drew ?_) | (with_reducible refine below_step (by assumption) ?_ ?_) | omega | (simp; done) | (simp; omega))))).mono ?_); rintro e w1 ⟨rfl, b1⟩; obtain ⟨hc1, hf1⟩ := bxcell b1; have q1_0 := fun o => hc1 (w.heap.size) o (by first | omega | (simp; done) | (simp; omega)); have q1_1 := fun o => hc1 (w.heap.size + 1) o (by first | omega | (simp; done) | (simp; omega)); have q1_2 := fun o => hc1 (w.heap.size + 1 + 1) o (by first | omega | (simp; done) | (simp; omega)); have f1_0 := fun o => hf1 (w.heap.size) o (by first | omega | (simp; done) | (simp; omega)); have f1_1 := fun o => hf1 (w.heap.size + 1) o (by first | omega | (simp; done) | (simp; omega)); have f1_2 := fun o => hf1 (w.heap.size + 1 + 1) o (by first | omega | (simp; done) | (simp; omega)); have hz1 := b1.size; (try simp at hz1); have z1_0 : w.heap.size < w1.heap.size := (by omega); have n1_0 := Nat.ne_of_lt z1_0; have m1_0 := (Nat.ne_of_lt z1_0).symm; have z1_1 : w.heap.size + 1 < w1.heap.size := (by omega); have n1_1 := Nat.ne_of_lt z1_1; have m1_1 := (Nat.ne_of_lt z1_1).symm; have z1_2 : w.heap.size + 1 + 1 < w1.heap.size := (by omega); have n1_2 := Nat.ne_of_lt z1_2; have m1_2 := (Nat.ne_of_lt z1_2).symm
    rw [HX.out]
    go_wp2_with fail
    (with_reducible refine (spec_RatOk t A2 B2 n2 c2 k2 d2 _ _ _ (V1.out.below (by repeat' (first | (with_reducible exact Below.refl _ _) | (with_reducible refine Below.alloc ?_ ?_ _) | (with_reducible refine Below.setCell ?_ ?_ _) | (with_reducible refine below_drewN ?_ _) | (with_reducible refine Below.drew ?_) | (with_reducible refine below_step (by assumption) ?_ ?_) | omega | (simp; done) | (simp; omega)))) (V2.out.below (by repeat' (first | (with_reducible exact Below.refl _ _) | (with_reducible refine Below.alloc ?_ ?_ _) | (with_reducible refine Below.setCell ?_ ?_ _) | (with_reducible refine below_drewN ?_ _) | (with_reducible refine Below.drew ?_) | (with_reducible refine below_step (by assumption) ?_ ?_) | omega | (simp; done) | (simp; omega))))).mono ?_); rintro e w2 ⟨rfl, b2⟩; obtain ⟨hc2, hf2⟩ := bxcell b2; have q2_0 := fun o => hc2 (w.heap.size) o (by first | omega | (simp; done) | (simp; omega)); have q2_1 := fun o => hc2 (w.heap.size + 1) o (by first | omega | (simp; done) | (simp; omega)); have q2_2 := fun o => hc2 (w.heap.size + 1 + 1) o (by first | omega | (simp; done) | (simp; omega)); have f2_0 := fun o => hf2 (w.heap.size) o (by first | omega | (simp; done) | (simp; omega)); have f2_1 := fun o => hf2 (w.heap.size + 1) o (by first | omega | (simp; done) | (simp; omega)); have f2_2 := fun o => hf2 (w.heap.size + 1 + 1) o (by first | omega | (simp; done) | (simp; omega)); have hz2 := b2.size; (try simp at hz2); have z2_0 : w.heap.size < w2.heap.size := (by omega); have n2_0 := Nat.ne_of_lt z2_0; have m2_0 := (Nat.ne_of_lt z2_0).symm; have z2_1 : w.heap.size + 1 < w2.heap.size := (by omega); have n2_1 := Nat.ne_of_lt z2_1; have m2_1 := (Nat.ne_of_lt z2_1).symm; have z2_2 : w.heap.size + 1 + 1 < w2.heap.size := (by omega); have n2_2 := Nat.ne_of_lt z2_2; have m2_2 := (Nat.ne_of_lt z2_2).symm
    rw [HY.out]
    go_wp2_with fail
    have HC := Lib.hid (show ratCmpF s t (toL m1) (toL l1) (toL m2) (toL l2) = cmpZ (bigZ s m1 * bigZ false l2) (bigZ t m2 * bigZ false l1) by unfold ratCmpF; rw [HX.out, HY.out]; simp only [zv_toL, dv_toL]; rfl)
    (with_reducible refine (spec_l04Cmp s t A1 B1 A2 B2 n1 c1 k1 d1 n2 c2 k2 d2 m1 l1 m2 l2 _ (U1.out.below (by repeat' (first | (with_reducible exact Below.refl _ _) | (with_reducible refine Below.alloc ?_ ?_ _) | (with_reducible refine Below.setCell ?_ ?_ _) | (with_reducible refine below_drewN ?_ _) | (with_reducible refine Below.drew ?_) | (with_reducible refine below_step (by assumption) ?_ ?_) | omega | (simp; done) | (simp; omega)))) (U2.out.below (by repeat' (first | (with_reducible exact Below.refl _ _) | (with_reducible refine Below.alloc ?_ ?_ _) | (with_reducible refine Below.setCell ?_ ?_ _) | (with_reducible refine below_drewN ?_ _) | (with_reducible refine Below.drew ?_) | (with_reducible refine below_step (by assumption) ?_ ?_) | omega | (simp; done) | (simp; omega)))) (V1.out.below (by repeat' (first | (with_reducible exact Below.refl _ _) | (with_reducible refine Below.alloc ?_ ?_ _) | (with_reducible refine Below.setCell ?_ ?_ _) | (with_reducible refine below_drewN ?_ _) | (with_reducible refine Below.drew ?_) | (with_reducible refine below_step (by assumption) ?_ ?_) | omega | (simp; done) | (simp; omega)))) (V2.out.below (by repeat' (first | (with_reducible exact Below.refl _ _) | (with_reducible refine Below.alloc ?_ ?_ _) | (with_reducible refine Below.setCell ?_ ?_ _) | (with_reducible refine below_drewN ?_ _) | (with_reducible refine Below.drew ?_) | (with_reducible refine below_step (by assumption) ?_ ?_) | omega | (simp; done) | (simp; omega)))) M1.out L1.out M2.out L2.out P1.out P2.out).mono ?_); rintro e w3 ⟨rfl, b3⟩; obtain ⟨hc3, hf3⟩ := bxcell b3; have q3_0 := fun o => hc3 (w.heap.size) o (by first | omega | (simp; done) | (simp; omega)); have q3_1 := fun o => hc3 (w.heap.size + 1) o (by first | omega | (simp; done) | (simp; omega)); have q3_2 := fun o => hc3 (w.heap.size + 1 + 1) o (by first | omega | (simp; done) | (simp; omega)); have f3_0 := fun o => hf3 (w.heap.size) o (by first | omega | (simp; done) | (simp; omega)); have f3_1 := fun o => hf3 (w.heap.size + 1) o (by first | omega | (simp; done) | (simp; omega)); have f3_2 := fun o => hf3 (w.heap.size + 1 + 1) o (by first | omega | (simp; done) | (simp; omega)); have hz3 := b3.size; (try simp at hz3); have z3_0 : w.heap.size < w3.heap.size := (by omega); have n3_0 := Nat.ne_of_lt z3_0; have m3_0 := (Nat.ne_of_lt z3_0).symm; have z3_1 : w.heap.size + 1 < w3.heap.size := (by omega); have n3_1 := Nat.ne_of_lt z3_1; have m3_1 := (Nat.ne_of_lt z3_1).symm; have z3_2 : w.heap.size + 1 + 1 < w3.heap.size := (by omega); have n3_2 := Nat.ne_of_lt z3_2; have m3_2 := (Nat.ne_of_lt z3_2).symm
    rw [← HC.out]
    by_cases hcm : 0 ≤ ratCmpF s t (toL m1) (toL l1) (toL m2) (toL l2)
    · have HV := Lib.hid (HR.out.trans (if_pos (decide_eq_true hcm)))
      go_wp2_with fail
      (with_reducible refine (spec_l04Copy s A1 B1 n1 c1 k1 d1 m1 l1 _ (U1.out.below (by repeat' (first | (with_reducible exact Below.refl _ _) | (with_reducible refine Below.alloc ?_ ?_ _) | (with_reducible refine Below.setCell ?_ ?_ _) | (with_reducible refine below_drewN ?_ _) | (with_reducible refine Below.drew ?_) | (with_reducible refine below_step (by assumption) ?_ ?_) | omega | (simp; done) | (simp; omega)))) (U2.out.below (by repeat' (first | (with_reducible exact Below.refl _ _) | (with_reducible refine Below.alloc ?_ ?_ _) | (with_reducible refine Below.setCell ?_ ?_ _) | (with_reducible refine below_drewN ?_ _) | (with_reducible refine Below.drew ?_) | (with_reducible refine below_step (by assumption) ?_ ?_) | omega | (simp; done) | (simp; omega)))) M1.out L1.out P1.out).mono ?_); rintro e w4 ⟨A4, n4, c4, B4, k4, d4, rfl, o4, b4⟩; obtain ⟨hc4, hf4⟩ := bxcell b4; have q4_0 := fun o => hc4 (w.heap.size) o (by first | omega | (simp; done) | (simp; omega)); have q4_1 := fun o => hc4 (w.heap.size + 1) o (by first | omega | (simp; done) | (simp; omega)); have q4_2 := fun o => hc4 (w.heap.size + 1 + 1) o (by first | omega | (simp; done) | (simp; omega)); have f4_0 := fun o => hf4 (w.heap.size) o (by first | omega | (simp; done) | (simp; omega)); have f4_1 := fun o => hf4 (w.heap.size + 1) o (by first | omega | (simp; done) | (simp; omega)); have f4_2 := fun o => hf4 (w.heap.size + 1 + 1) o (by first | omega | (simp; done) | (simp; omega)); have hz4 := b4.size; (try simp at hz4); have z4_0 : w.heap.size < w4.heap.size := (by omega); have n4_0 := Nat.ne_of_lt z4_0; have m4_0 := (Nat.ne_of_lt z4_0).symm; have z4_1 : w.heap.size + 1 < w4.heap.size := (by omega); have n4_1 := Nat.ne_of_lt z4_1; have m4_1 := (Nat.ne_of_lt z4_1).symm; have z4_2 : w.heap.size + 1 + 1 < w4.heap.size := (by omega); have n4_2 := Nat.ne_of_lt z4_2; have m4_2 := (Nat.ne_of_lt z4_2).symm; have O4 := Lib.hid o4; clear o4
      go_wp2
      exact bodyPost_ret (v := .agg #[.bool s, .slice A4 n4 c4, .slice B4 k4 d4]) (by simp [results, Try.results51, go_sem, *]) rfl (copy_q HV.out S1.out (PairR.wide (lo := w3.heap.size) (hi := w4.heap.size) ((by have hfar := O4.out; repeat' (first | (with_reducible exact hfar) | (with_reducible refine PairR.far ?_ _ _ ?_) | (with_reducible refine PairR.allocd ?_ _ ?_) | (left; first | omega | (simp; done) | (simp; omega)) | (right; first | omega | (simp; done) | (simp; omega)) | omega | (simp; done) | (simp; omega) | (exact hfar)))) (by first | omega | (simp; done) | (simp; omega)) (by first | omega | (simp; done) | (simp; omega))) (by repeat' (first | (with_reducible exact Below.refl _ _) | (with_reducible refine Below.alloc ?_ ?_ _) | (with_reducible refine Below.setCell ?_ ?_ _) | (with_reducible refine below_drewN ?_ _) | (with_reducible refine Below.drew ?_) | (with_reducible refine below_step (by assumption) ?_ ?_) | omega | (simp; done) | (simp; omega))))
    · have HV := Lib.hid (HR.out.trans (if_neg (by rw [decide_eq_false hcm]; simp)))
      go_wp2_with fail
      (with_reducible refine (spec_l04Copy t A2 B2 n2 c2 k2 d2 m2 l2 _ (V1.out.below (by repeat' (first | (with_reducible exact Below.refl _ _) | (with_reducible refine Below.alloc ?_ ?_ _) | (with_reducible refine Below.setCell ?_ ?_ _) | (with_reducible refine below_drewN ?_ _) | (with_reducible refine Below.drew ?_) | (with_reducible refine below_step (by assumption) ?_ ?_) | omega | (simp; done) | (simp; omega)))) (V2.out.below (by repeat' (first | (with_reducible exact Below.refl _ _) | (with_reducible refine Below.alloc ?_ ?_ _) | (with_reducible refine Below.setCell ?_ ?_ _) | (with_reducible refine below_drewN ?_ _) | (with_reducible refine Below.drew ?_) | (with_reducible refine below_step (by assumption) ?_ ?_) | omega | (simp; done) | (simp; omega)))) M2.out L2.out P2.out).mono ?_); rintro e w4 ⟨A4, n4, c4, B4, k4, d4, rfl, o4, b4⟩; obtain ⟨hc4, hf4⟩ := bxcell b4; have q4_0 := fun o => hc4 (w.heap.size) o (by first | omega | (simp; done) | (simp; omega)); have q4_1 := fun o => hc4 (w.heap.size + 1) o (by first | omega | (simp; done) | (simp; omega)); have q4_2 := fun o => hc4 (w.heap.size + 1 + 1) o (by first | omega | (simp; done) | (simp; omega)); have f4_0 := fun o => hf4 (w.heap.size) o (by first | omega | (simp; done) | (simp; omega)); have f4_1 := fun o => hf4 (w.heap.size + 1) o (by first | omega | (simp; done) | (simp; omega)); have f4_2 := fun o => hf4 (w.heap.size + 1 + 1) o (by first | omega | (simp; done) | (simp; omega)); have hz4 := b4.size; (try simp at hz4); have z4_0 : w.heap.size < w4.heap.size := (by omega); have n4_0 := Nat.ne_of_lt z4_0; have m4_0 := (Nat.ne_of_lt z4_0).symm; have z4_1 : w.heap.size + 1 < w4.heap.size := (by omega); have n4_1 := Nat.ne_of_lt z4_1; have m4_1 := (Nat.ne_of_lt z4_1).symm; have z4_2 : w.heap.size + 1 + 1 < w4.heap.size := (by omega); have n4_2 := Nat.ne_of_lt z4_2; have m4_2 := (Nat.ne_of_lt z4_2).symm; have O4 := Lib.hid o4; clear o4
      go_wp2
      exact bodyPost_ret (v := .agg #[.bool t, .slice A4 n4 c4, .slice B4 k4 d4]) (by simp [results, Try.results51, go_sem, *]) rfl (copy_q HV.out S2.out (PairR.wide (lo := w3.heap.size) (hi := w4.heap.size) ((by have hfar := O4.out; repeat' (first | (with_reducible exact hfar) | (with_reducible refine PairR.far ?_ _ _ ?_) | (with_reducible refine PairR.allocd ?_ _ ?_) | (left; first | omega | (simp; done) | (simp; omega)) | (right; first | omega | (simp; done) | (simp; omega)) | omega | (simp; done) | (simp; omega) | (exact hfar)))) (by first | omega | (simp; done) | (simp; omega)) (by first | omega | (simp; done) | (simp; omega))) (by repeat' (first | (with_reducible exact Below.refl _ _) | (with_reducible refine Below.alloc ?_ ?_ _) | (with_reducible refine Below.setCell ?_ ?_ _) | (with_reducible refine below_drewN ?_ _) | (with_reducible refine Below.drew ?_) | (with_reducible refine below_step (by assumption) ?_ ?_) | omega | (simp; done) | (simp; omega))))
end Go.Proofs.Ytglhddfdjopbdaa
