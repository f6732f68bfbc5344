/-
  Contracts: sums, products and comparison of big ints, the inner functions of both packages. Written by an AI agent.
-/
import Derived.Test.YticekjagmcphbaaGreatDoorBigM
import Derived.Test.YticekjagmcphbaaGreatDoorSub
import Derived.Test.YticekjagmcphbaaGreatDoorMul
import Derived.Test.YticekjagmcphbaaGreatDoorCmp
import Derived.Deep.RegionHeld3
namespace Go.Proofs.YticekjagmcphbaaGreatDoor
open Go.RowKit

theorem bigZ_add (s : Bool) (m l : Nat) : bigZ s m + bigZ s l = bigZ s (m + l) := by cases s <;> simp [bigZ] <;> omega
theorem bigZ_sub1 (s : Bool) {m l : Nat} (h : l ≤ m) : bigZ s m + bigZ (!s) l = bigZ s (m - l) := by cases s <;> simp [bigZ] <;> omega
theorem bigZ_sub2 (s : Bool) {m l : Nat} (h : m ≤ l) : bigZ s m + bigZ (!s) l = bigZ (!s) (l - m) := by cases s <;> simp [bigZ] <;> omega
theorem bigZ_mul (s t : Bool) (m l : Nat) : bigZ s m * bigZ t l = bigZ (s != t) (m * l) := by cases s <;> cases t <;> simp [bigZ, Int.neg_mul, Int.mul_neg]
def cmpZ (x y : Int) : Int := if x < y then -1 else if y < x then 1 else 0

theorem MadeZ.wide {lo lo' : Nat} {r : Int} {w w' : World} {en : Ending} (h : MadeZ lo r w en w') (hl : lo' ≤ lo) : MadeZ lo' r w en w' := by
  obtain ⟨s, A, n, c, e, hs, o, b⟩ := h
  exact ⟨s, A, n, c, e, hs, o.rebase hl, b⟩
theorem impl_make (s : Bool) (v : Value) (m lo : Nat) (w : World) (h : Own w lo 3 v (toL m)) (_hl : lo ≤ w.heap.size) :
    Calls Tryz.prog 35 #[.bool s, v] w (MadeZ lo (limZ (bigZ s m)) w) := impl_bigMake s v m lo w h
theorem spec_make (s : Bool) (v : Value) (m lo : Nat) (w : World) (h : Own w lo 3 v (toL m)) (hl : lo ≤ w.heap.size) :
    Calls Tryz.prog 63 #[.bool s, v] w (MadeZ lo (limZ (bigZ s m)) w) := (spec_l03Make s v m w h.sl).mono fun _ _ h => h.wide hl


set_option maxHeartbeats 2000000 in
theorem impl_bigAddA (s : Bool) (A B : Option Addr) (n c k d : Nat) (m l : Nat) (w : World) (hu : Sl w (.slice A n c) (toL m)) (hv : Sl w (.slice B k d) (toL l)) (hm : m < pw 200) (hl : l < pw 200) :
    Calls Tryz.prog 46 #[.agg #[.bool s, .slice A n c], .agg #[.bool s, .slice B k d]] w (RetZ (limZ (bigZ s m + bigZ s l)) w) := by
  rw [bigZ_add]
  have HU := Lib.hid hu
  have HV := Lib.hid hv
  have HM := Lib.hid hm
  have HL := Lib.hid hl
  clear hu hv hm hl
  go_enter Tryz.func46, Tryz.ntmps46
  go_wp2_with fail
  have zz : w.heap.size < w.heap.size + 1 + 1 := by omega
  have nn := Nat.ne_of_lt zz
  have mm := (Nat.ne_of_lt zz).symm
  go_region_held3 (fun w' => w'.cell? ⟨w.heap.size, 0, none⟩ = some (.bool s) ∧ w'.cell? ⟨w.heap.size, 1, none⟩ = some (.slice A n c) ∧ w'.cell? ⟨w.heap.size + 1, 0, none⟩ = some (.bool s) ∧ w'.cell? ⟨w.heap.size + 1, 1, none⟩ = some (.slice B k d)) (go_keep)
    (first
      | (go_at_call 58; (with_reducible refine (impl_natAdd _ _ m l _ (HU.out.below (by repeat' (first | (with_reducible exact Below.refl _ _) | (with_reducible refine Below.alloc ?_ ?_ _) | (with_reducible refine Below.setCell ?_ ?_ _) | (with_reducible refine below_drewN ?_ _) | (with_reducible refine Below.drew ?_) | (with_reducible refine below_step (by assumption) ?_ ?_) | omega | (simp; done) | (simp; omega)))) (HV.out.below (by repeat' (first | (with_reducible exact Below.refl _ _) | (with_reducible refine Below.alloc ?_ ?_ _) | (with_reducible refine Below.setCell ?_ ?_ _) | (with_reducible refine below_drewN ?_ _) | (with_reducible refine Below.drew ?_) | (with_reducible refine below_step (by assumption) ?_ ?_) | omega | (simp; done) | (simp; omega)))) HM.out HL.out).mono ?_); rintro e w1 ⟨r1, rfl, o1, b1⟩; obtain ⟨hc1, hf1⟩ := bxcell b1; have q1_0 := fun o => hc1 (w.heap.size) o (by first | omega | (simp; done) | (simp; omega)); have q1_1 := fun o => hc1 (w.heap.size + 1) o (by first | omega | (simp; done) | (simp; omega)); have q1_2 := fun o => hc1 (w.heap.size + 1 + 1) o (by first | omega | (simp; done) | (simp; omega)); have f1_0 := fun o => hf1 (w.heap.size) o (by first | omega | (simp; done) | (simp; omega)); have f1_1 := fun o => hf1 (w.heap.size + 1) o (by first | omega | (simp; done) | (simp; omega)); have f1_2 := fun o => hf1 (w.heap.size + 1 + 1) o (by first | omega | (simp; done) | (simp; omega)); have hz1 := b1.size; (try simp at hz1); have z1_0 : w.heap.size < w1.heap.size := (by omega); have n1_0 := Nat.ne_of_lt z1_0; have m1_0 := (Nat.ne_of_lt z1_0).symm; have z1_1 : w.heap.size + 1 < w1.heap.size := (by omega); have n1_1 := Nat.ne_of_lt z1_1; have m1_1 := (Nat.ne_of_lt z1_1).symm; have z1_2 : w.heap.size + 1 + 1 < w1.heap.size := (by omega); have n1_2 := Nat.ne_of_lt z1_2; have m1_2 := (Nat.ne_of_lt z1_2).symm; have O1 := Lib.hid (o1.rebase (base' := w.heap.size + 1 + 1 + 1) (by first | omega | (simp; done) | (simp; omega))); clear o1)
      | (go_at_call 35; (with_reducible refine (impl_make s _ (m + l) (w.heap.size + 1 + 1 + 1) _ O1.out (by first | omega | (simp; done) | (simp; omega))).mono ?_); rintro e w2 ⟨s2, A2, n2, c2, rfl, hs2, o2, b2⟩; obtain ⟨hc2, hf2⟩ := bxcell b2; have q2_0 := fun o => hc2 (w.heap.size) o (by first | omega | (simp; done) | (simp; omega)); have q2_1 := fun o => hc2 (w.heap.size + 1) o (by first | omega | (simp; done) | (simp; omega)); have q2_2 := fun o => hc2 (w.heap.size + 1 + 1) o (by first | omega | (simp; done) | (simp; omega)); have f2_0 := fun o => hf2 (w.heap.size) o (by first | omega | (simp; done) | (simp; omega)); have f2_1 := fun o => hf2 (w.heap.size + 1) o (by first | omega | (simp; done) | (simp; omega)); have f2_2 := fun o => hf2 (w.heap.size + 1 + 1) o (by first | omega | (simp; done) | (simp; omega)); have hz2 := b2.size; (try simp at hz2); have z2_0 : w.heap.size < w2.heap.size := (by omega); have n2_0 := Nat.ne_of_lt z2_0; have m2_0 := (Nat.ne_of_lt z2_0).symm; have z2_1 : w.heap.size + 1 < w2.heap.size := (by omega); have n2_1 := Nat.ne_of_lt z2_1; have m2_1 := (Nat.ne_of_lt z2_1).symm; have z2_2 : w.heap.size + 1 + 1 < w2.heap.size := (by omega); have n2_2 := Nat.ne_of_lt z2_2; have m2_2 := (Nat.ne_of_lt z2_2).symm; have HS2 := Lib.hid hs2; have O2 := Lib.hid o2; clear hs2 o2))
  all_goals
    go_wp2
    exact bodyPost_ret (v := .agg #[.bool s2, .slice A2 n2 c2]) (by simp [results, Tryz.results46, go_sem, *]) rfl ⟨_, _, _, _, rfl, HS2.out, (by refine Own.rebase (base := w.heap.size + 1 + 1 + 1) ?_ (by first | omega | (simp; done) | (simp; omega)); have this := O2.out; (try rw [List.nil_append] at this); repeat' (first | (with_reducible refine Own.far ?_ _ _ ?_) | (exact this) | (simp; done) | (simp; omega) | (simpa using this))), (by repeat' (first | (with_reducible exact Below.refl _ _) | (with_reducible refine Below.alloc ?_ ?_ _) | (with_reducible refine Below.setCell ?_ ?_ _) | (with_reducible refine below_drewN ?_ _) | (with_reducible refine Below.drew ?_) | (with_reducible refine below_step (by assumption) ?_ ?_) | omega | (simp; done) | (simp; omega)))⟩

set_option maxHeartbeats 4000000 in
theorem impl_bigAddB (s : Bool) (A B : Option Addr) (n c k d : Nat) (m l : Nat) (w : World) (hu : Sl w (.slice A n c) (toL m)) (hv : Sl w (.slice B k d) (toL l)) (hm : m < pw 200) (hl : l < pw 200) (hle : l ≤ m) :
    Calls Tryz.prog 46 #[.agg #[.bool s, .slice A n c], .agg #[.bool (!s), .slice B k d]] w (RetZ (limZ (bigZ s m + bigZ (!s) l)) w) := by
  rw [bigZ_sub1 s hle]
  have hge : 0 ≤ cmpN m l := (by unfold cmpN; split <;> (try split) <;> omega)
  have HU := Lib.hid hu
  have HV := Lib.hid hv
  have HM := Lib.hid hm
  have HL := Lib.hid hl
  have HLE := Lib.hid hle
  clear hu hv hm hl hle
  have hbe : (s == !s) = false := by cases s <;> rfl
  all_goals
    go_enter Tryz.func46, Tryz.ntmps46
    go_wp2_with fail
    refine (impl_natCmp _ _ m l _ (HU.out.below (by repeat' (first | (with_reducible exact Below.refl _ _) | (with_reducible refine Below.alloc ?_ ?_ _) | (with_reducible refine Below.setCell ?_ ?_ _) | (with_reducible refine below_drewN ?_ _) | (with_reducible refine Below.drew ?_) | (with_reducible refine below_step (by assumption) ?_ ?_) | omega | (simp; done) | (simp; omega)))) (HV.out.below (by repeat' (first | (with_reducible exact Below.refl _ _) | (with_reducible refine Below.alloc ?_ ?_ _) | (with_reducible refine Below.setCell ?_ ?_ _) | (with_reducible refine below_drewN ?_ _) | (with_reducible refine Below.drew ?_) | (with_reducible refine below_step (by assumption) ?_ ?_) | omega | (simp; done) | (simp; omega))))).mono ?_
    rintro e w1 ⟨rfl, p, rfl⟩
    have zz : w.heap.size < w.heap.size + 1 + 1 := by omega
    have nn := Nat.ne_of_lt zz
    have mm := (Nat.ne_of_lt zz).symm
    go_wp2_with fail
    go_region_held3 (fun w' => w'.cell? ⟨w.heap.size, 0, none⟩ = some (.bool s) ∧ w'.cell? ⟨w.heap.size, 1, none⟩ = some (.slice A n c) ∧ w'.cell? ⟨w.heap.size + 1, 0, none⟩ = some (.bool (!s)) ∧ w'.cell? ⟨w.heap.size + 1, 1, none⟩ = some (.slice B k d)) (go_keep)
      (first
        | (go_at_call 60; (with_reducible refine (impl_natSub _ _ m l _ (HU.out.below (by repeat' (first | (with_reducible exact Below.refl _ _) | (with_reducible refine Below.alloc ?_ ?_ _) | (with_reducible refine Below.setCell ?_ ?_ _) | (with_reducible refine below_drewN ?_ _) | (with_reducible refine Below.drew ?_) | (with_reducible refine below_step (by assumption) ?_ ?_) | omega | (simp; done) | (simp; omega)))) (HV.out.below (by repeat' (first | (with_reducible exact Below.refl _ _) | (with_reducible refine Below.alloc ?_ ?_ _) | (with_reducible refine Below.setCell ?_ ?_ _) | (with_reducible refine below_drewN ?_ _) | (with_reducible refine Below.drew ?_) | (with_reducible refine below_step (by assumption) ?_ ?_) | omega | (simp; done) | (simp; omega)))) HM.out HLE.out).mono ?_); rintro e w2 ⟨r2, rfl, o2, b2⟩; obtain ⟨hc2, hf2⟩ := bxcell b2; have q2_0 := fun o => hc2 (w.heap.size) o (by first | omega | (simp; done) | (simp; omega)); have q2_1 := fun o => hc2 (w.heap.size + 1) o (by first | omega | (simp; done) | (simp; omega)); have q2_2 := fun o => hc2 (w.heap.size + 1 + 1) o (by first | omega | (simp; done) | (simp; omega)); have f2_0 := fun o => hf2 (w.heap.size) o (by first | omega | (simp; done) | (simp; omega)); have f2_1 := fun o => hf2 (w.heap.size + 1) o (by first | omega | (simp; done) | (simp; omega)); have f2_2 := fun o => hf2 (w.heap.size + 1 + 1) o (by first | omega | (simp; done) | (simp; omega)); have hz2 := b2.size; (try simp at hz2); have z2_0 : w.heap.size < w2.heap.size := (by omega); have n2_0 := Nat.ne_of_lt z2_0; have m2_0 := (Nat.ne_of_lt z2_0).symm; have z2_1 : w.heap.size + 1 < w2.heap.size := (by omega); have n2_1 := Nat.ne_of_lt z2_1; have m2_1 := (Nat.ne_of_lt z2_1).symm; have z2_2 : w.heap.size + 1 + 1 < w2.heap.size := (by omega); have n2_2 := Nat.ne_of_lt z2_2; have m2_2 := (Nat.ne_of_lt z2_2).symm; have O2 := Lib.hid (o2.rebase (base' := w.heap.size + 1 + 1 + 1) (by first | omega | (simp; done) | (simp; omega))); clear o2)
        | (go_at_call 35; (with_reducible refine (impl_make _ _ (m - l) (w.heap.size + 1 + 1 + 1) _ O2.out (by first | omega | (simp; done) | (simp; omega))).mono ?_); rintro e w3 ⟨s3, A3, n3, c3, rfl, hs3, o3, b3⟩; obtain ⟨hc3, hf3⟩ := bxcell b3; have q3_0 := fun o => hc3 (w.heap.size) o (by first | omega | (simp; done) | (simp; omega)); have q3_1 := fun o => hc3 (w.heap.size + 1) o (by first | omega | (simp; done) | (simp; omega)); have q3_2 := fun o => hc3 (w.heap.size + 1 + 1) o (by first | omega | (simp; done) | (simp; omega)); have f3_0 := fun o => hf3 (w.heap.size) o (by first | omega | (simp; done) | (simp; omega)); have f3_1 := fun o => hf3 (w.heap.size + 1) o (by first | omega | (simp; done) | (simp; omega)); have f3_2 := fun o => hf3 (w.heap.size + 1 + 1) o (by first | omega | (simp; done) | (simp; omega)); have hz3 := b3.size; (try simp at hz3); have z3_0 : w.heap.size < w3.heap.size := (by omega); have n3_0 := Nat.ne_of_lt z3_0; have m3_0 := (Nat.ne_of_lt z3_0).symm; have z3_1 : w.heap.size + 1 < w3.heap.size := (by omega); have n3_1 := Nat.ne_of_lt z3_1; have m3_1 := (Nat.ne_of_lt z3_1).symm; have z3_2 : w.heap.size + 1 + 1 < w3.heap.size := (by omega); have n3_2 := Nat.ne_of_lt z3_2; have m3_2 := (Nat.ne_of_lt z3_2).symm; have HS3 := Lib.hid hs3; have O3 := Lib.hid o3; clear hs3 o3))
    all_goals
      go_wp2
      exact bodyPost_ret (v := .agg #[.bool s3, .slice A3 n3 c3]) (by simp [results, Tryz.results46, go_sem, *]) rfl ⟨_, _, _, _, rfl, HS3.out, (by refine Own.rebase (base := w.heap.size + 1 + 1 + 1) ?_ (by first | omega | (simp; done) | (simp; omega)); have this := O3.out; (try rw [List.nil_append] at this); repeat' (first | (with_reducible refine Own.far ?_ _ _ ?_) | (exact this) | (simp; done) | (simp; omega) | (simpa using this))), (by repeat' (first | (with_reducible exact Below.refl _ _) | (with_reducible refine Below.alloc ?_ ?_ _) | (with_reducible refine Below.setCell ?_ ?_ _) | (with_reducible refine below_drewN ?_ _) | (with_reducible refine Below.drew ?_) | (with_reducible refine below_step (by assumption) ?_ ?_) | omega | (simp; done) | (simp; omega)))⟩

set_option maxHeartbeats 4000000 in
theorem impl_bigAddC (s : Bool) (A B : Option Addr) (n c k d : Nat) (m l : Nat) (w : World) (hu : Sl w (.slice A n c) (toL m)) (hv : Sl w (.slice B k d) (toL l)) (hm : m < pw 200) (hl : l < pw 200) (hle : m < l) :
    Calls Tryz.prog 46 #[.agg #[.bool s, .slice A n c], .agg #[.bool (!s), .slice B k d]] w (RetZ (limZ (bigZ s m + bigZ (!s) l)) w) := by
  rw [bigZ_sub2 s (Nat.le_of_lt hle)]
  have hge : cmpN m l < 0 := (by rw [cmpN_lt hle]; omega)
  have HU := Lib.hid hu
  have HV := Lib.hid hv
  have HM := Lib.hid hm
  have HL := Lib.hid hl
  have HLE := Lib.hid (Nat.le_of_lt hle)
  clear hu hv hm hl hle
  have hbe : (s == !s) = false := by cases s <;> rfl
  all_goals
    go_enter Tryz.func46, Tryz.ntmps46
    go_wp2_with fail
    refine (impl_natCmp _ _ m l _ (HU.out.below (by repeat' (first | (with_reducible exact Below.refl _ _) | (with_reducible refine Below.alloc ?_ ?_ _) | (with_reducible refine Below.setCell ?_ ?_ _) | (with_reducible refine below_drewN ?_ _) | (with_reducible refine Below.drew ?_) | (with_reducible refine below_step (by assumption) ?_ ?_) | omega | (simp; done) | (simp; omega)))) (HV.out.below (by repeat' (first | (with_reducible exact Below.refl _ _) | (with_reducible refine Below.alloc ?_ ?_ _) | (with_reducible refine Below.setCell ?_ ?_ _) | (with_reducible refine below_drewN ?_ _) | (with_reducible refine Below.drew ?_) | (with_reducible refine below_step (by assumption) ?_ ?_) | omega | (simp; done) | (simp; omega))))).mono ?_
    rintro e w1 ⟨rfl, p, rfl⟩
    have zz : w.heap.size < w.heap.size + 1 + 1 := by omega
    have nn := Nat.ne_of_lt zz
    have mm := (Nat.ne_of_lt zz).symm
    go_wp2_with fail
    go_region_held3 (fun w' => w'.cell? ⟨w.heap.size, 0, none⟩ = some (.bool s) ∧ w'.cell? ⟨w.heap.size, 1, none⟩ = some (.slice A n c) ∧ w'.cell? ⟨w.heap.size + 1, 0, none⟩ = some (.bool (!s)) ∧ w'.cell? ⟨w.heap.size + 1, 1, none⟩ = some (.slice B k d)) (go_keep)
      (first
        | (go_at_call 60; (with_reducible refine (impl_natSub _ _ l m _ (HV.out.below (by repeat' (first | (with_reducible exact Below.refl _ _) | (with_reducible refine Below.alloc ?_ ?_ _) | (with_reducible refine Below.setCell ?_ ?_ _) | (with_reducible refine below_drewN ?_ _) | (with_reducible refine Below.drew ?_) | (with_reducible refine below_step (by assumption) ?_ ?_) | omega | (simp; done) | (simp; omega)))) (HU.out.below (by repeat' (first | (with_reducible exact Below.refl _ _) | (with_reducible refine Below.alloc ?_ ?_ _) | (with_reducible refine Below.setCell ?_ ?_ _) | (with_reducible refine below_drewN ?_ _) | (with_reducible refine Below.drew ?_) | (with_reducible refine below_step (by assumption) ?_ ?_) | omega | (simp; done) | (simp; omega)))) HL.out HLE.out).mono ?_); rintro e w2 ⟨r2, rfl, o2, b2⟩; obtain ⟨hc2, hf2⟩ := bxcell b2; have q2_0 := fun o => hc2 (w.heap.size) o (by first | omega | (simp; done) | (simp; omega)); have q2_1 := fun o => hc2 (w.heap.size + 1) o (by first | omega | (simp; done) | (simp; omega)); have q2_2 := fun o => hc2 (w.heap.size + 1 + 1) o (by first | omega | (simp; done) | (simp; omega)); have f2_0 := fun o => hf2 (w.heap.size) o (by first | omega | (simp; done) | (simp; omega)); have f2_1 := fun o => hf2 (w.heap.size + 1) o (by first | omega | (simp; done) | (simp; omega)); have f2_2 := fun o => hf2 (w.heap.size + 1 + 1) o (by first | omega | (simp; done) | (simp; omega)); have hz2 := b2.size; (try simp at hz2); have z2_0 : w.heap.size < w2.heap.size := (by omega); have n2_0 := Nat.ne_of_lt z2_0; have m2_0 := (Nat.ne_of_lt z2_0).symm; have z2_1 : w.heap.size + 1 < w2.heap.size := (by omega); have n2_1 := Nat.ne_of_lt z2_1; have m2_1 := (Nat.ne_of_lt z2_1).symm; have z2_2 : w.heap.size + 1 + 1 < w2.heap.size := (by omega); have n2_2 := Nat.ne_of_lt z2_2; have m2_2 := (Nat.ne_of_lt z2_2).symm; have O2 := Lib.hid (o2.rebase (base' := w.heap.size + 1 + 1 + 1) (by first | omega | (simp; done) | (simp; omega))); clear o2)
        | (go_at_call 35; (with_reducible refine (impl_make _ _ (l - m) (w.heap.size + 1 + 1 + 1) _ O2.out (by first | omega | (simp; done) | (simp; omega))).mono ?_); rintro e w3 ⟨s3, A3, n3, c3, rfl, hs3, o3, b3⟩; obtain ⟨hc3, hf3⟩ := bxcell b3; have q3_0 := fun o => hc3 (w.heap.size) o (by first | omega | (simp; done) | (simp; omega)); have q3_1 := fun o => hc3 (w.heap.size + 1) o (by first | omega | (simp; done) | (simp; omega)); have q3_2 := fun o => hc3 (w.heap.size + 1 + 1) o (by first | omega | (simp; done) | (simp; omega)); have f3_0 := fun o => hf3 (w.heap.size) o (by first | omega | (simp; done) | (simp; omega)); have f3_1 := fun o => hf3 (w.heap.size + 1) o (by first | omega | (simp; done) | (simp; omega)); have f3_2 := fun o => hf3 (w.heap.size + 1 + 1) o (by first | omega | (simp; done) | (simp; omega)); have hz3 := b3.size; (try simp at hz3); have z3_0 : w.heap.size < w3.heap.size := (by omega); have n3_0 := Nat.ne_of_lt z3_0; have m3_0 := (Nat.ne_of_lt z3_0).symm; have z3_1 : w.heap.size + 1 < w3.heap.size := (by omega); have n3_1 := Nat.ne_of_lt z3_1; have m3_1 := (Nat.ne_of_lt z3_1).symm; have z3_2 : w.heap.size + 1 + 1 < w3.heap.size := (by omega); have n3_2 := Nat.ne_of_lt z3_2; have m3_2 := (Nat.ne_of_lt z3_2).symm; have HS3 := Lib.hid hs3; have O3 := Lib.hid o3; clear hs3 o3))
    all_goals
      go_wp2
      exact bodyPost_ret (v := .agg #[.bool s3, .slice A3 n3 c3]) (by simp [results, Tryz.results46, go_sem, *]) rfl ⟨_, _, _, _, rfl, HS3.out, (by refine Own.rebase (base := w.heap.size + 1 + 1 + 1) ?_ (by first | omega | (simp; done) | (simp; omega)); have this := O3.out; (try rw [List.nil_append] at this); repeat' (first | (with_reducible refine Own.far ?_ _ _ ?_) | (exact this) | (simp; done) | (simp; omega) | (simpa using this))), (by repeat' (first | (with_reducible exact Below.refl _ _) | (with_reducible refine Below.alloc ?_ ?_ _) | (with_reducible refine Below.setCell ?_ ?_ _) | (with_reducible refine below_drewN ?_ _) | (with_reducible refine Below.drew ?_) | (with_reducible refine below_step (by assumption) ?_ ?_) | omega | (simp; done) | (simp; omega)))⟩

theorem impl_bigAdd (s t : Bool) (A B : Option Addr) (n c k d : Nat) (m l : Nat) (w : World) (hu : Sl w (.slice A n c) (toL m)) (hv : Sl w (.slice B k d) (toL l)) (hm : m < pw 200) (hl : l < pw 200) :
    Calls Tryz.prog 46 #[.agg #[.bool s, .slice A n c], .agg #[.bool t, .slice B k d]] w (RetZ (limZ (bigZ s m + bigZ t l)) w) := by
  by_cases h : t = s
  · subst h
    exact impl_bigAddA t A B n c k d m l w hu hv hm hl
  · obtain rfl : t = !s := by cases s <;> cases t <;> simp_all
    rcases Nat.lt_or_ge m l with h1 | h1
    · exact impl_bigAddC s A B n c k d m l w hu hv hm hl h1
    · exact impl_bigAddB s A B n c k d m l w hu hv hm hl h1

end Go.Proofs.YticekjagmcphbaaGreatDoor
