/-
  Contracts: the exported functions on big ints that make a big int or compare. Written by an AI agent.
-/
import Derived.Test.YtekppknakegadaaBigZ
import Derived.Deep.RegionHeld3
namespace Go.Proofs.Ytekppknakegadaa
open Go.RowKit

theorem bigOk_iff {s : Bool} {xs : List Int} (h : bigOk s xs = true) : ∃ m : Nat, xs = toL m ∧ m < pw 60 ∧ (s = true → 0 < m) := by
  unfold bigOk at h
  rw [Bool.and_eq_true] at h
  obtain ⟨m, rfl, hm⟩ := okB_toL h.1
  refine ⟨m, rfl, hm, fun hs => ?_⟩
  subst hs
  rcases Nat.eq_zero_or_pos m with h0 | h0
  · subst h0
    rw [toL_zero] at h
    simp at h
  · exact h0
/-- The integer of a sign and a list of limbs. -/
def zv (s : Bool) (xs : List Int) : Int := bigZ s (val xs).toNat
theorem zv_toL (s : Bool) (m : Nat) : zv s (toL m) = bigZ s m := by unfold zv; rw [val_toL]; rfl
theorem zlen {r : Int} (h : r.natAbs < pw 60) : (toL r.natAbs).length ≤ 60 := toL_len_le.2 h
theorem zlen_lim (r : Int) : (toL (limZ r).natAbs).length ≤ 60 := zlen (limZ_lt r)

def bigNegF (s : Bool) (xs : List Int) : Int := if bigOk s xs then limZ (-(zv s xs)) else 0
def bigAddF (s t : Bool) (xs ys : List Int) : Int := if bigOk s xs && bigOk t ys then limZ (zv s xs + zv t ys) else 0
def bigSubF (s t : Bool) (xs ys : List Int) : Int := if bigOk s xs && bigOk t ys then limZ (zv s xs - zv t ys) else 0
def bigMulF (s t : Bool) (xs ys : List Int) : Int := if bigOk s xs && bigOk t ys then limZ (zv s xs * zv t ys) else 0
def bigCmpF (s t : Bool) (xs ys : List Int) : Int := if bigOk s xs && bigOk t ys then cmpZ (zv s xs) (zv t ys) else 0
theorem zero_len : (toL (0 : Int).natAbs).length ≤ 60 := by simp [toL_zero]
theorem bigNegF_len (s : Bool) (xs : List Int) : (toL (bigNegF s xs).natAbs).length ≤ 2000000 := by
  refine Nat.le_trans ?_ (show 60 ≤ 2000000 by omega)
  unfold bigNegF; split
  · exact zlen_lim _
  · exact zero_len
theorem bigAddF_len (s t : Bool) (xs ys : List Int) : (toL (bigAddF s t xs ys).natAbs).length ≤ 2000000 := by
  refine Nat.le_trans ?_ (show 60 ≤ 2000000 by omega)
  unfold bigAddF; split
  · exact zlen_lim _
  · exact zero_len
theorem bigSubF_len (s t : Bool) (xs ys : List Int) : (toL (bigSubF s t xs ys).natAbs).length ≤ 2000000 := by
  refine Nat.le_trans ?_ (show 60 ≤ 2000000 by omega)
  unfold bigSubF; split
  · exact zlen_lim _
  · exact zero_len
theorem bigMulF_len (s t : Bool) (xs ys : List Int) : (toL (bigMulF s t xs ys).natAbs).length ≤ 2000000 := by
  refine Nat.le_trans ?_ (show 60 ≤ 2000000 by omega)
  unfold bigMulF; split
  · exact zlen_lim _
  · exact zero_len
theorem bigZ_not (s : Bool) (m : Nat) : bigZ (!s) m = -(bigZ s m) := by cases s <;> simp [bigZ]

/-- A big int of the call's own is handed back that is the integer r. -/
def RetI (r : Int) (w : World) (en : Ending) (w' : World) : Prop := RetBig 3 (decide (r < 0)) (toL r.natAbs) w en w'
theorem ret_zero {r : Int} {w w' : World} (h : r = 0) (b : Below w.heap.size w w') : RetI r w (.returned (.agg #[.bool false, .slice none 0 0])) w' := by
  subst h
  refine ⟨none, 0, 0, rfl, ?_, b⟩
  rw [show (0 : Int).natAbs = 0 from rfl, toL_zero]
  exact Own.nil _ _ _
theorem ret_made {s : Bool} {A : Option Addr} {n c : Nat} {r r' : Int} {w w' : World} (h : r = r') (hs : s = decide (r' < 0)) (o : Own w' w.heap.size 3 (.slice A n c) (toL r'.natAbs)) (b : Below w.heap.size w w') :
    RetI r w (.returned (.agg #[.bool s, .slice A n c])) w' := by
  subst h hs
  exact ⟨_, _, _, rfl, o, b⟩


theorem cmpZ_nn (m l : Nat) : cmpN m l = cmpZ (bigZ false m) (bigZ false l) := by unfold cmpN cmpZ bigZ; simp
theorem cmpZ_mm (m l : Nat) : cmpN l m = cmpZ (bigZ true m) (bigZ true l) := by unfold cmpN cmpZ bigZ; simp
theorem cmpZ_mn {m : Nat} (l : Nat) (h : 0 < m) : -1 = cmpZ (bigZ true m) (bigZ false l) := by unfold cmpZ bigZ; rw [if_pos (by first | omega | (simp; done) | (simp; omega))]
theorem cmpZ_nm (m : Nat) {l : Nat} (h : 0 < l) : 1 = cmpZ (bigZ false m) (bigZ true l) := by unfold cmpZ bigZ; rw [if_neg (by first | omega | (simp; done) | (simp; omega)), if_pos (by first | omega | (simp; done) | (simp; omega))]
theorem bigZ_dec (s : Bool) (m : Nat) : bigZ (decide (bigZ s m < 0)) m = bigZ s m := by
  rcases Nat.eq_zero_or_pos m with h | h
  · subst h
    rw [bigZ_zero, bigZ_zero]
  · rw [bigZ_neg h]
theorem sub_val {s t u : Bool} {m l : Nat} (hu : u = decide (limZ (bigZ (!t) l) < 0)) (hl : l < pw 60) : limZ (bigZ s m - bigZ t l) = limZ (bigZ s m + bigZ u l) := by
  subst hu
  rw [limZ_small hl, bigZ_dec, bigZ_not]
  rfl
theorem made_abs (t : Bool) {l : Nat} (hl : l < pw 60) : (limZ (bigZ (!t) l)).natAbs = l := by rw [limZ_small hl, bigZ_abs]
theorem impl_bigMakeL (t : Bool) (v : Value) (l : Nat) (w : World) (hl : l < pw 60) (hv : Sl w v (toL l)) :
    Calls Try.prog 77 #[.bool (!t), v] w fun e w' => ∃ u A n c, e = .returned (.agg #[.bool u, .slice A n c]) ∧ u = decide (limZ (bigZ (!t) l) < 0) ∧ Sl w' (.slice A n c) (toL l) ∧ Below w.heap.size w w' := by
  refine (impl_bigMakeR (!t) v l w hv).mono fun e w' ⟨u, A, n, c, he, hu, ho, hb⟩ => ⟨u, A, n, c, he, hu, ?_, hb⟩
  rwa [made_abs t hl] at ho
theorem bigNegF_val {t : Bool} {l : Nat} (hy : bigOk t (toL l) = true) : bigNegF t (toL l) = limZ (bigZ (!t) l) := by
  unfold bigNegF
  rw [hy, zv_toL, bigZ_not]
  rfl
end Go.Proofs.Ytekppknakegadaa
