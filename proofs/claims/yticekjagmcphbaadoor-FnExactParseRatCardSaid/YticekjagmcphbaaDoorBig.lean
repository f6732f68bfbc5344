/-
  The laws' helpers on big ints (a bool and a list): copy, size, compare, mark. Written by an AI agent.
-/
import Derived.Test.YticekjagmcphbaaDoorOwn2
namespace Go.Proofs.YticekjagmcphbaaDoor
open Go.RowKit

theorem bxcell {W w1 : World} (hb : Below W.heap.size W w1) : (∀ b o, b < W.heap.size → w1.cell? ⟨b, o, none⟩ = W.cell? ⟨b, o, none⟩) ∧ (∀ b o, b < W.heap.size → w1.frozen? ⟨b, o, none⟩ = W.frozen? ⟨b, o, none⟩) :=
  ⟨fun b o h => hb.cell (p := ⟨b, o, none⟩) h, fun b o h => by unfold World.frozen?; rw [hb.block b h]⟩
/-- A big int of the call's own is handed back: its sign s, its list xs, which lies in a block from lo up to hi. -/
def RetBig (e : TypeId) (s : Bool) (xs : List Int) (w : World) (en : Ending) (w' : World) : Prop :=
  ∃ A n c, en = .returned (.agg #[.bool s, .slice A n c]) ∧ Own w' w.heap.size e (.slice A n c) xs ∧ Below w.heap.size w w'

set_option maxHeartbeats 1000000 in
theorem laws_toBigInt (s : Bool) (A : Option Addr) (n c : Nat) (xs : List Int) (w : World) (h : Sl w (.slice A n c) xs) (hl : xs.length ≤ 1048576) :
    Calls Tryd.prog 20 #[.agg #[.bool s, .slice A n c]] w (RetBig 3 s xs w) := by
  have HS := Lib.hid h
  clear h
  go_enter Tryd.func20, Tryd.ntmps20
  go_wp2_with fail
  refine (laws_toIntS _ xs _ (HS.out.below (by repeat' (first | (with_reducible exact Below.refl _ _) | (with_reducible refine Below.alloc ?_ ?_ _) | (with_reducible refine Below.setCell ?_ ?_ _) | (with_reducible refine below_drewN ?_ _) | (with_reducible refine Below.drew ?_) | (with_reducible refine below_step (by assumption) ?_ ?_) | omega | (simp; done) | (simp; omega)))) hl).mono ?_
  rintro e w1 ⟨r1, rfl, o1, b1⟩
  obtain ⟨D, cd, hv, e1, e2, e3⟩ := o1.form
  subst hv
  clear e1 e2 e3
  have O1 := Lib.hid o1
  clear o1
  obtain ⟨hc, hf⟩ := bxcell b1
  have hz := b1.size
  simp at hz
  have z_w1_0 : w.heap.size < w1.heap.size := (by omega); have z_w1_1 : w.heap.size + 1 < w1.heap.size := (by omega); have z_w1_2 : w.heap.size + 1 + 1 < w1.heap.size := (by omega)
  go_wp2_with fail
  refine bodyPost_ret (v := .agg #[.bool s, .slice D xs.length cd]) (by simp [results, Tryd.results20, go_sem, *]) rfl ⟨_, _, _, rfl, ?_, (by repeat' (first | (with_reducible exact Below.refl _ _) | (with_reducible refine Below.alloc ?_ ?_ _) | (with_reducible refine Below.setCell ?_ ?_ _) | (with_reducible refine below_drewN ?_ _) | (with_reducible refine Below.drew ?_) | (with_reducible refine below_step b1 ?_ ?_) | omega | (simp; done) | (simp; omega)))⟩
  refine Own.rebase (base := w.heap.size + 1 + 1 + 1) (Own.far (Own.far (Own.far ?_ _ _ ?_) _ _ ?_) _ _ ?_) (by omega)
  · have := O1.out
    simpa using this
  · show w.heap.size + 1 + 1 < _; omega
  · show w.heap.size + 1 < _; omega
  · show w.heap.size + 1 < _; omega

set_option maxHeartbeats 1000000 in
theorem laws_szIntS (A : Option Addr) (n c : Nat) (k : Int) (w : World) (hn : n ≤ 9223372036854775807) (k0 : -1 ≤ k) (k1 : k ≤ 1048576) :
    Calls Tryd.prog 59 #[.slice A n c, .int .i64 k] w fun e w' => e = .returned (.int .i64 (if k - n < 0 then -1 else k - n)) ∧ w = w' := by
  by_cases h : k - (n : Int) < 0
  · rw [if_pos h]
    go_enter Tryd.func59, Tryd.ntmps59
    go_wp2
    go_ret
    exact ⟨rfl, rfl⟩
  · rw [if_neg h]
    go_enter Tryd.func59, Tryd.ntmps59
    go_wp2
    go_ret
    exact ⟨rfl, rfl⟩

set_option maxHeartbeats 1000000 in
theorem laws_szBigInt (s : Bool) (A : Option Addr) (n c : Nat) (k : Int) (w : World) (hn : n ≤ 9223372036854775807) (k0 : -1 ≤ k) (k1 : k ≤ 1048576) :
    Calls Tryd.prog 18 #[.agg #[.bool s, .slice A n c], .int .i64 k] w fun e w' => e = .returned (.int .i64 (if k - n < 0 then -1 else k - n)) ∧ Below w.heap.size w w' := by
  by_cases h : k - (n : Int) < 0
  · rw [if_pos h]
    have HC := fun W => Lib.hid (laws_szIntS A n c k W hn k0 k1)
    rw [if_pos h] at HC
    go_enter Tryd.func18, Tryd.ntmps18
    go_wp2_with fail
    refine (HC _).out.mono ?_
    rintro e w1 ⟨rfl, rfl⟩
    go_wp2
    go_ret
    exact ⟨rfl, (by repeat' (first | (with_reducible exact Below.refl _ _) | (with_reducible refine Below.alloc ?_ ?_ _) | (with_reducible refine Below.setCell ?_ ?_ _) | (with_reducible refine below_drewN ?_ _) | (with_reducible refine Below.drew ?_) | (with_reducible refine below_step (by assumption) ?_ ?_) | omega | (simp; done) | (simp; omega)))⟩
  · rw [if_neg h]
    have HC := fun W => Lib.hid (laws_szIntS A n c k W hn k0 k1)
    rw [if_neg h] at HC
    go_enter Tryd.func18, Tryd.ntmps18
    go_wp2_with fail
    refine (HC _).out.mono ?_
    rintro e w1 ⟨rfl, rfl⟩
    go_wp2
    go_ret
    exact ⟨rfl, (by repeat' (first | (with_reducible exact Below.refl _ _) | (with_reducible refine Below.alloc ?_ ?_ _) | (with_reducible refine Below.setCell ?_ ?_ _) | (with_reducible refine below_drewN ?_ _) | (with_reducible refine Below.drew ?_) | (with_reducible refine below_step (by assumption) ?_ ?_) | omega | (simp; done) | (simp; omega)))⟩

set_option maxHeartbeats 1000000 in
theorem eqBig (s : Bool) (A B : Option Addr) (n c m d : Nat) (xs : List Int) (w : World) (hu : Sl w (.slice A n c) xs) (hv : Sl w (.slice B m d) xs) :
    Calls Tryd.prog 22 #[.agg #[.bool s, .slice A n c], .agg #[.bool s, .slice B m d]] w fun e w' => e = .returned (.bool true) ∧ Below w.heap.size w w' := by
  have HU := Lib.hid hu
  have HV := Lib.hid hv
  have hne : (s != s) = false := by simp
  clear hu hv
  go_enter Tryd.func22, Tryd.ntmps22
  go_wp2_with fail
  refine (eqInts _ _ xs _ (HU.out.below (by repeat' (first | (with_reducible exact Below.refl _ _) | (with_reducible refine Below.alloc ?_ ?_ _) | (with_reducible refine Below.setCell ?_ ?_ _) | (with_reducible refine below_drewN ?_ _) | (with_reducible refine Below.drew ?_) | (with_reducible refine below_step (by assumption) ?_ ?_) | omega | (simp; done) | (simp; omega)))) (HV.out.below (by repeat' (first | (with_reducible exact Below.refl _ _) | (with_reducible refine Below.alloc ?_ ?_ _) | (with_reducible refine Below.setCell ?_ ?_ _) | (with_reducible refine below_drewN ?_ _) | (with_reducible refine Below.drew ?_) | (with_reducible refine below_step (by assumption) ?_ ?_) | omega | (simp; done) | (simp; omega))))).mono ?_
  rintro e w1 ⟨rfl, b1⟩
  go_wp2
  go_ret
  exact ⟨rfl, (by repeat' (first | (with_reducible exact Below.refl _ _) | (with_reducible refine Below.alloc ?_ ?_ _) | (with_reducible refine Below.setCell ?_ ?_ _) | (with_reducible refine below_drewN ?_ _) | (with_reducible refine Below.drew ?_) | (with_reducible refine below_step (by assumption) ?_ ?_) | omega | (simp; done) | (simp; omega)))⟩

set_option maxHeartbeats 1000000 in
theorem markBig (s : Bool) (A : Option Addr) (n c : Nat) (xs : List Int) (k : Int) (lo hi : Nat) (w : World) (h : OwnR w lo hi 3 (.slice A n c) xs) (hl : lo ≤ w.heap.size) (hh : hi ≤ w.heap.size) (k0 : 0 ≤ k) (k1 : k + xs.length ≤ 4611686018427387904) :
    Calls Tryd.prog 70 #[.agg #[.bool s, .slice A n c], .int .i64 k] w fun en w' => en = .returned (.int .i64 (k + xs.length)) ∧ OwnR w' lo hi 3 (.slice A n c) (marks k xs.length) ∧ Only lo hi w w' ∧ Below lo w w' := by
  have HU := Lib.hid h
  clear h
  go_enter Tryd.func70, Tryd.ntmps70
  go_wp2_with fail
  refine (markInts _ xs k lo hi _ (HU.out.below (Below.alloc (Below.refl _ _) (Nat.le_refl _) _) hh) (by simp; omega) k0 k1).mono ?_
  rintro e w1 ⟨rfl, O1, f1, b1⟩
  have HO := Lib.hid O1
  have HF := Lib.hid f1
  have HB := Lib.hid b1
  clear O1 f1 b1
  go_wp2
  go_ret
  exact ⟨rfl, HO.out, (Only.of_below ((Below.refl _ _).alloc (Nat.le_refl _) _)).trans HF.out, (((Below.refl _ _).alloc hl _)).trans HB.out⟩

set_option maxHeartbeats 1000000 in
theorem heldBig (s : Bool) (A : Option Addr) (m c n : Nat) (k : Int) (w : World) (h : Sl w (.slice A m c) (marks k n)) (k0 : 0 ≤ k) (k1 : k + n ≤ 4611686018427387904) :
    Calls Tryd.prog 72 #[.agg #[.bool s, .slice A m c], .int .i64 k] w fun en w' => en = .returned (.int .i64 (k + n)) ∧ Below w.heap.size w w' := by
  have HU := Lib.hid h
  clear h
  have hk : ¬ (k + (n : Int) < 0) := by omega
  go_enter Tryd.func72, Tryd.ntmps72
  go_wp2_with fail
  refine (heldInts _ n k _ (HU.out.below (by repeat' (first | (with_reducible exact Below.refl _ _) | (with_reducible refine Below.alloc ?_ ?_ _) | (with_reducible refine Below.setCell ?_ ?_ _) | (with_reducible refine below_drewN ?_ _) | (with_reducible refine Below.drew ?_) | (with_reducible refine below_step (by assumption) ?_ ?_) | omega | (simp; done) | (simp; omega)))) k0 k1).mono ?_
  rintro e w1 ⟨rfl, b1⟩
  go_wp2
  go_ret
  exact ⟨rfl, (by repeat' (first | (with_reducible exact Below.refl _ _) | (with_reducible refine Below.alloc ?_ ?_ _) | (with_reducible refine Below.setCell ?_ ?_ _) | (with_reducible refine below_drewN ?_ _) | (with_reducible refine Below.drew ?_) | (with_reducible refine below_step (by assumption) ?_ ?_) | omega | (simp; done) | (simp; omega)))⟩
end Go.Proofs.YticekjagmcphbaaDoor
