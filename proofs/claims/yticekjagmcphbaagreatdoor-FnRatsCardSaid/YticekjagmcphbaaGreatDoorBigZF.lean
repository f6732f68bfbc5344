/-
  Contracts: the exported functions on big ints that make a big int or compare. Written by an AI agent.
-/
import Derived.Test.YticekjagmcphbaaGreatDoorBigZ
import Derived.Deep.RegionHeld3
namespace Go.Proofs.YticekjagmcphbaaGreatDoor
open Go.RowKit

theorem bigOk_iff {s : Bool} {xs : List Int} (h : bigOk s xs = true) : ∃ m : Nat, xs = toL m ∧ m < pw 60 ∧ (s = true → 0 < m) := by
  unfold bigOk at h
  rw [Bool.and_eq_true] at h
  obtain ⟨m, rfl, hm⟩ := okB_toL h.1
  refine ⟨m, rfl, hm, fun hs => ?_⟩
  subst hs
  rcases Nat.eq_zero_or_pos m with h0 | h0
  · subst h0
    rw [toL_zero] at h
    simp at h
  · exact h0
/-- The integer of a sign and a list of limbs. -/
def zv (s : Bool) (xs : List Int) : Int := bigZ s (val xs).toNat
theorem zv_toL (s : Bool) (m : Nat) : zv s (toL m) = bigZ s m := by unfold zv; rw [val_toL]; rfl
theorem zlen {r : Int} (h : r.natAbs < pw 60) : (toL r.natAbs).length ≤ 60 := toL_len_le.2 h
theorem zlen_lim (r : Int) : (toL (limZ r).natAbs).length ≤ 60 := zlen (limZ_lt r)

def bigNegF (s : Bool) (xs : List Int) : Int := if bigOk s xs then limZ (-(zv s xs)) else 0
def bigAddF (s t : Bool) (xs ys : List Int) : Int := if bigOk s xs && bigOk t ys then limZ (zv s xs + zv t ys) else 0
def bigSubF (s t : Bool) (xs ys : List Int) : Int := if bigOk s xs && bigOk t ys then limZ (zv s xs - zv t ys) else 0
def bigMulF (s t : Bool) (xs ys : List Int) : Int := if bigOk s xs && bigOk t ys then limZ (zv s xs * zv t ys) else 0
def bigCmpF (s t : Bool) (xs ys : List Int) : Int := if bigOk s xs && bigOk t ys then cmpZ (zv s xs) (zv t ys) else 0
theorem zero_len : (toL (0 : Int).natAbs).length ≤ 60 := by simp [toL_zero]
theorem bigNegF_len (s : Bool) (xs : List Int) : (toL (bigNegF s xs).natAbs).length ≤ 2000000 := by
  refine Nat.le_trans ?_ (show 60 ≤ 2000000 by omega)
  unfold bigNegF; split
  · exact zlen_lim _
  · exact zero_len
theorem bigAddF_len (s t : Bool) (xs ys : List Int) : (toL (bigAddF s t xs ys).natAbs).length ≤ 2000000 := by
  refine Nat.le_trans ?_ (show 60 ≤ 2000000 by omega)
  unfold bigAddF; split
  · exact zlen_lim _
  · exact zero_len
theorem bigSubF_len (s t : Bool) (xs ys : List Int) : (toL (bigSubF s t xs ys).natAbs).length ≤ 2000000 := by
  refine Nat.le_trans ?_ (show 60 ≤ 2000000 by omega)
  unfold bigSubF; split
  · exact zlen_lim _
  · exact zero_len
theorem bigMulF_len (s t : Bool) (xs ys : List Int) : (toL (bigMulF s t xs ys).natAbs).length ≤ 2000000 := by
  refine Nat.le_trans ?_ (show 60 ≤ 2000000 by omega)
  unfold bigMulF; split
  · exact zlen_lim _
  · exact zero_len
theorem bigZ_not (s : Bool) (m : Nat) : bigZ (!s) m = -(bigZ s m) := by cases s <;> simp [bigZ]

/-- A big int of the call's own is handed back that is the integer r. -/
def RetI (r : Int) (w : World) (en : Ending) (w' : World) : Prop := RetBig 3 (decide (r < 0)) (toL r.natAbs) w en w'
theorem ret_zero {r : Int} {w w' : World} (h : r = 0) (b : Below w.heap.size w w') : RetI r w (.returned (.agg #[.bool false, .slice none 0 0])) w' := by
  subst h
  refine ⟨none, 0, 0, rfl, ?_, b⟩
  rw [show (0 : Int).natAbs = 0 from rfl, toL_zero]
  exact Own.nil _ _ _
theorem ret_made {s : Bool} {A : Option Addr} {n c : Nat} {r r' : Int} {w w' : World} (h : r = r') (hs : s = decide (r' < 0)) (o : Own w' w.heap.size 3 (.slice A n c) (toL r'.natAbs)) (b : Below w.heap.size w w') :
    RetI r w (.returned (.agg #[.bool s, .slice A n c])) w' := by
  subst h hs
  exact ⟨_, _, _, rfl, o, b⟩

set_option maxHeartbeats 2000000 in
theorem impl_bigMul (s t : Bool) (A B : Option Addr) (n c k d : Nat) (m l : Nat) (w : World) (hu : Sl w (.slice A n c) (toL m)) (hv : Sl w (.slice B k d) (toL l)) (hm : m < pw 200) (hl : l < pw 200) :
    Calls Tryz.prog 44 #[.agg #[.bool s, .slice A n c], .agg #[.bool t, .slice B k d]] w (RetZ (limZ (bigZ s m * bigZ t l)) w) := by
  rw [bigZ_mul]
  have HU := Lib.hid hu
  have HV := Lib.hid hv
  have HM := Lib.hid hm
  have HL := Lib.hid hl
  clear hu hv hm hl
  go_enter Tryz.func44, Tryz.ntmps44
  go_wp2_with fail
  have zz : w.heap.size < w.heap.size + 1 + 1 := by omega
  have nn := Nat.ne_of_lt zz
  have mm := (Nat.ne_of_lt zz).symm
  go_region_held3 (fun w' => w'.cell? ⟨w.heap.size, 0, none⟩ = some (.bool s) ∧ w'.cell? ⟨w.heap.size, 1, none⟩ = some (.slice A n c) ∧ w'.cell? ⟨w.heap.size + 1, 0, none⟩ = some (.bool t) ∧ w'.cell? ⟨w.heap.size + 1, 1, none⟩ = some (.slice B k d)) (go_keep)
    (first
      | (go_at_call 57; (with_reducible refine (impl_natMul _ _ m l _ (HU.out.below (by repeat' (first | (with_reducible exact Below.refl _ _) | (with_reducible refine Below.alloc ?_ ?_ _) | (with_reducible refine Below.setCell ?_ ?_ _) | (with_reducible refine below_drewN ?_ _) | (with_reducible refine Below.drew ?_) | (with_reducible refine below_step (by assumption) ?_ ?_) | omega | (simp; done) | (simp; omega)))) (HV.out.below (by repeat' (first | (with_reducible exact Below.refl _ _) | (with_reducible refine Below.alloc ?_ ?_ _) | (with_reducible refine Below.setCell ?_ ?_ _) | (with_reducible refine below_drewN ?_ _) | (with_reducible refine Below.drew ?_) | (with_reducible refine below_step (by assumption) ?_ ?_) | omega | (simp; done) | (simp; omega)))) HM.out HL.out).mono ?_); rintro e w3 ⟨r3, rfl, o3, b3⟩; obtain ⟨hc3, hf3⟩ := bxcell b3; have q3_0 := fun o => hc3 (w.heap.size) o (by first | omega | (simp; done) | (simp; omega)); have q3_1 := fun o => hc3 (w.heap.size + 1) o (by first | omega | (simp; done) | (simp; omega)); have q3_2 := fun o => hc3 (w.heap.size + 1 + 1) o (by first | omega | (simp; done) | (simp; omega)); have f3_0 := fun o => hf3 (w.heap.size) o (by first | omega | (simp; done) | (simp; omega)); have f3_1 := fun o => hf3 (w.heap.size + 1) o (by first | omega | (simp; done) | (simp; omega)); have f3_2 := fun o => hf3 (w.heap.size + 1 + 1) o (by first | omega | (simp; done) | (simp; omega)); have hz3 := b3.size; (try simp at hz3); have z3_0 : w.heap.size < w3.heap.size := (by omega); have n3_0 := Nat.ne_of_lt z3_0; have m3_0 := (Nat.ne_of_lt z3_0).symm; have z3_1 : w.heap.size + 1 < w3.heap.size := (by omega); have n3_1 := Nat.ne_of_lt z3_1; have m3_1 := (Nat.ne_of_lt z3_1).symm; have z3_2 : w.heap.size + 1 + 1 < w3.heap.size := (by omega); have n3_2 := Nat.ne_of_lt z3_2; have m3_2 := (Nat.ne_of_lt z3_2).symm; have O3 := Lib.hid (o3.rebase (base' := w.heap.size + 1 + 1 + 1) (by first | omega | (simp; done) | (simp; omega))); clear o3)
      | (go_at_call 35; (with_reducible refine (impl_make (!(s == t)) _ (m * l) (w.heap.size + 1 + 1 + 1) _ O3.out (by first | omega | (simp; done) | (simp; omega))).mono ?_); rintro e w4 ⟨s4, A4, n4, c4, rfl, hs4, o4, b4⟩; obtain ⟨hc4, hf4⟩ := bxcell b4; have q4_0 := fun o => hc4 (w.heap.size) o (by first | omega | (simp; done) | (simp; omega)); have q4_1 := fun o => hc4 (w.heap.size + 1) o (by first | omega | (simp; done) | (simp; omega)); have q4_2 := fun o => hc4 (w.heap.size + 1 + 1) o (by first | omega | (simp; done) | (simp; omega)); have f4_0 := fun o => hf4 (w.heap.size) o (by first | omega | (simp; done) | (simp; omega)); have f4_1 := fun o => hf4 (w.heap.size + 1) o (by first | omega | (simp; done) | (simp; omega)); have f4_2 := fun o => hf4 (w.heap.size + 1 + 1) o (by first | omega | (simp; done) | (simp; omega)); have hz4 := b4.size; (try simp at hz4); have z4_0 : w.heap.size < w4.heap.size := (by omega); have n4_0 := Nat.ne_of_lt z4_0; have m4_0 := (Nat.ne_of_lt z4_0).symm; have z4_1 : w.heap.size + 1 < w4.heap.size := (by omega); have n4_1 := Nat.ne_of_lt z4_1; have m4_1 := (Nat.ne_of_lt z4_1).symm; have z4_2 : w.heap.size + 1 + 1 < w4.heap.size := (by omega); have n4_2 := Nat.ne_of_lt z4_2; have m4_2 := (Nat.ne_of_lt z4_2).symm; have HS4 := Lib.hid hs4; have O4 := Lib.hid (o4.rebase (base' := w.heap.size + 1 + 1 + 1) (by first | omega | (simp; done) | (simp; omega))); clear hs4 o4))
  all_goals
    go_wp2
    exact bodyPost_ret (v := .agg #[.bool s4, .slice A4 n4 c4]) (by simp [results, Tryz.results44, go_sem, *]) rfl ⟨_, _, _, _, rfl, HS4.out, (by refine Own.rebase (base := w.heap.size + 1 + 1 + 1) ?_ (by first | omega | (simp; done) | (simp; omega)); have this := O4.out; (try rw [List.nil_append] at this); repeat' (first | (with_reducible refine Own.far ?_ _ _ ?_) | (exact this) | (simp; done) | (simp; omega) | (simpa using this))), (by repeat' (first | (with_reducible exact Below.refl _ _) | (with_reducible refine Below.alloc ?_ ?_ _) | (with_reducible refine Below.setCell ?_ ?_ _) | (with_reducible refine below_drewN ?_ _) | (with_reducible refine Below.drew ?_) | (with_reducible refine below_step (by assumption) ?_ ?_) | omega | (simp; done) | (simp; omega)))⟩

theorem cmpZ_nn (m l : Nat) : cmpN m l = cmpZ (bigZ false m) (bigZ false l) := by unfold cmpN cmpZ bigZ; simp
theorem cmpZ_mm (m l : Nat) : cmpN l m = cmpZ (bigZ true m) (bigZ true l) := by unfold cmpN cmpZ bigZ; simp
theorem cmpZ_mn {m : Nat} (l : Nat) (h : 0 < m) : -1 = cmpZ (bigZ true m) (bigZ false l) := by unfold cmpZ bigZ; rw [if_pos (by first | omega | (simp; done) | (simp; omega))]
theorem cmpZ_nm (m : Nat) {l : Nat} (h : 0 < l) : 1 = cmpZ (bigZ false m) (bigZ true l) := by unfold cmpZ bigZ; rw [if_neg (by first | omega | (simp; done) | (simp; omega)), if_pos (by first | omega | (simp; done) | (simp; omega))]

set_option maxHeartbeats 2000000 in
theorem impl_bigCmp (s t : Bool) (A B : Option Addr) (n c k d : Nat) (m l : Nat) (w : World) (hu : Sl w (.slice A n c) (toL m)) (hv : Sl w (.slice B k d) (toL l)) (hs : s = true → 0 < m) (ht : t = true → 0 < l) :
    Calls Tryz.prog 48 #[.agg #[.bool s, .slice A n c], .agg #[.bool t, .slice B k d]] w fun e w' => e = .returned (.int .i64 (cmpZ (bigZ s m) (bigZ t l))) ∧ Below w.heap.size w w' := by
  have HU := Lib.hid hu
  have HV := Lib.hid hv
  have HS := Lib.hid hs
  have HT := Lib.hid ht
  clear hu hv hs ht
  cases s <;> cases t
  · rw [← cmpZ_nn]
    go_enter Tryz.func48, Tryz.ntmps48
    go_wp2_with fail
    refine (impl_natCmp _ _ m l _ (HU.out.below (by repeat' (first | (with_reducible exact Below.refl _ _) | (with_reducible refine Below.alloc ?_ ?_ _) | (with_reducible refine Below.setCell ?_ ?_ _) | (with_reducible refine below_drewN ?_ _) | (with_reducible refine Below.drew ?_) | (with_reducible refine below_step (by assumption) ?_ ?_) | omega | (simp; done) | (simp; omega)))) (HV.out.below (by repeat' (first | (with_reducible exact Below.refl _ _) | (with_reducible refine Below.alloc ?_ ?_ _) | (with_reducible refine Below.setCell ?_ ?_ _) | (with_reducible refine below_drewN ?_ _) | (with_reducible refine Below.drew ?_) | (with_reducible refine below_step (by assumption) ?_ ?_) | omega | (simp; done) | (simp; omega))))).mono ?_
    rintro e w1 ⟨rfl, p, rfl⟩
    go_wp2
    go_ret
    exact ⟨rfl, (by repeat' (first | (with_reducible exact Below.refl _ _) | (with_reducible refine Below.alloc ?_ ?_ _) | (with_reducible refine Below.setCell ?_ ?_ _) | (with_reducible refine below_drewN ?_ _) | (with_reducible refine Below.drew ?_) | (with_reducible refine below_step (by assumption) ?_ ?_) | omega | (simp; done) | (simp; omega)))⟩
  · rw [← cmpZ_nm m (HT.out rfl)]
    go_enter Tryz.func48, Tryz.ntmps48
    go_wp2
    go_ret
    exact ⟨rfl, (by repeat' (first | (with_reducible exact Below.refl _ _) | (with_reducible refine Below.alloc ?_ ?_ _) | (with_reducible refine Below.setCell ?_ ?_ _) | (with_reducible refine below_drewN ?_ _) | (with_reducible refine Below.drew ?_) | (with_reducible refine below_step (by assumption) ?_ ?_) | omega | (simp; done) | (simp; omega)))⟩
  · rw [← cmpZ_mn l (HS.out rfl)]
    go_enter Tryz.func48, Tryz.ntmps48
    go_wp2
    go_ret
    exact ⟨rfl, (by repeat' (first | (with_reducible exact Below.refl _ _) | (with_reducible refine Below.alloc ?_ ?_ _) | (with_reducible refine Below.setCell ?_ ?_ _) | (with_reducible refine below_drewN ?_ _) | (with_reducible refine Below.drew ?_) | (with_reducible refine below_step (by assumption) ?_ ?_) | omega | (simp; done) | (simp; omega)))⟩
  · rw [← cmpZ_mm]
    go_enter Tryz.func48, Tryz.ntmps48
    go_wp2_with fail
    refine (impl_natCmp _ _ l m _ (HV.out.below (by repeat' (first | (with_reducible exact Below.refl _ _) | (with_reducible refine Below.alloc ?_ ?_ _) | (with_reducible refine Below.setCell ?_ ?_ _) | (with_reducible refine below_drewN ?_ _) | (with_reducible refine Below.drew ?_) | (with_reducible refine below_step (by assumption) ?_ ?_) | omega | (simp; done) | (simp; omega)))) (HU.out.below (by repeat' (first | (with_reducible exact Below.refl _ _) | (with_reducible refine Below.alloc ?_ ?_ _) | (with_reducible refine Below.setCell ?_ ?_ _) | (with_reducible refine below_drewN ?_ _) | (with_reducible refine Below.drew ?_) | (with_reducible refine below_step (by assumption) ?_ ?_) | omega | (simp; done) | (simp; omega))))).mono ?_
    rintro e w1 ⟨rfl, p, rfl⟩
    go_wp2
    go_ret
    exact ⟨rfl, (by repeat' (first | (with_reducible exact Below.refl _ _) | (with_reducible refine Below.alloc ?_ ?_ _) | (with_reducible refine Below.setCell ?_ ?_ _) | (with_reducible refine below_drewN ?_ _) | (with_reducible refine Below.drew ?_) | (with_reducible refine below_step (by assumption) ?_ ?_) | omega | (simp; done) | (simp; omega)))⟩

theorem bigZ_dec (s : Bool) (m : Nat) : bigZ (decide (bigZ s m < 0)) m = bigZ s m := by
  rcases Nat.eq_zero_or_pos m with h | h
  · subst h
    rw [bigZ_zero, bigZ_zero]
  · rw [bigZ_neg h]
theorem sub_val {s t u : Bool} {m l : Nat} (hu : u = decide (limZ (bigZ (!t) l) < 0)) (hl : l < pw 60) : limZ (bigZ s m - bigZ t l) = limZ (bigZ s m + bigZ u l) := by
  subst hu
  rw [limZ_small hl, bigZ_dec, bigZ_not]
  rfl
theorem made_abs (t : Bool) {l : Nat} (hl : l < pw 60) : (limZ (bigZ (!t) l)).natAbs = l := by rw [limZ_small hl, bigZ_abs]
theorem impl_bigMakeL (t : Bool) (v : Value) (l : Nat) (w : World) (hl : l < pw 60) (hv : Sl w v (toL l)) :
    Calls Tryz.prog 35 #[.bool (!t), v] w fun e w' => ∃ u A n c, e = .returned (.agg #[.bool u, .slice A n c]) ∧ u = decide (limZ (bigZ (!t) l) < 0) ∧ Sl w' (.slice A n c) (toL l) ∧ Below w.heap.size w w' := by
  refine (impl_bigMakeR (!t) v l w hv).mono fun e w' ⟨u, A, n, c, he, hu, ho, hb⟩ => ⟨u, A, n, c, he, hu, ?_, hb⟩
  rwa [made_abs t hl] at ho
theorem bigNegF_val {t : Bool} {l : Nat} (hy : bigOk t (toL l) = true) : bigNegF t (toL l) = limZ (bigZ (!t) l) := by
  unfold bigNegF
  rw [hy, zv_toL, bigZ_not]
  rfl
end Go.Proofs.YticekjagmcphbaaGreatDoor
