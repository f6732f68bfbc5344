/-
  The laws' helpers on fractions (a bool and two lists): copy, size, compare, mark. Written by an AI agent.
-/
import Derived.Test.YticekjagmcphbaaDoorBig
namespace Go.Proofs.YticekjagmcphbaaDoor
open Go.RowKit

/-- Two slice values are rows of the call's own, of the ints xs and ys, in blocks from lo up to hi, no block of one in the range of the other. -/
def PairR (w : World) (lo hi e : Nat) (u v : Value) (xs ys : List Int) : Prop :=
  ∃ lo1 hi1 lo2 hi2, OwnR w lo1 hi1 e u xs ∧ OwnR w lo2 hi2 e v ys ∧ lo ≤ lo1 ∧ lo ≤ lo2 ∧ (hi1 ≤ lo2 ∨ hi2 ≤ lo1) ∧ hi1 ≤ hi ∧ hi2 ≤ hi ∧ lo1 ≤ hi1 ∧ lo2 ≤ hi2
section
variable {w w' w'' : World} {u v : Value} {xs ys : List Int} {lo hi lo' hi' e : Nat}
theorem PairR.mk' {lo1 hi1 lo2 hi2 : Nat} (h1 : OwnR w lo1 hi1 e u xs) (h2 : OwnR w lo2 hi2 e v ys) (a : lo ≤ lo1) (b : lo ≤ lo2) (c : hi1 ≤ lo2 ∨ hi2 ≤ lo1) (d : hi1 ≤ hi) (f : hi2 ≤ hi) (l : lo1 ≤ hi1) (m : lo2 ≤ hi2) : PairR w lo hi e u v xs ys := ⟨lo1, hi1, lo2, hi2, h1, h2, a, b, c, d, f, l, m⟩
theorem PairR.sl1 (h : PairR w lo hi e u v xs ys) : Sl w u xs := by obtain ⟨_, _, _, _, h1, _⟩ := h; exact h1.sl
theorem PairR.sl2 (h : PairR w lo hi e u v xs ys) : Sl w v ys := by obtain ⟨_, _, _, _, _, h2, _⟩ := h; exact h2.sl
theorem PairR.here (h : PairR w lo hi e u v xs ys) (hb : Below hi w w') : PairR w' lo hi e u v xs ys := by
  obtain ⟨lo1, hi1, lo2, hi2, h1, h2, a, b, c, d, f, l, m⟩ := h
  exact ⟨lo1, hi1, lo2, hi2, h1.below hb d, h2.below hb f, a, b, c, d, f, l, m⟩
theorem PairR.across (h : PairR w lo hi e u v xs ys) (hb : Below hi w w') (ho : Only lo' hi' w' w'') (hd : hi ≤ lo' ∨ hi' ≤ lo) : PairR w'' lo hi e u v xs ys := by
  obtain ⟨lo1, hi1, lo2, hi2, h1, h2, a, b, c, d, f, l, m⟩ := h.here hb
  exact ⟨lo1, hi1, lo2, hi2, h1.only ho (by omega), h2.only ho (by omega), a, b, c, d, f, l, m⟩
theorem PairR.wide (h : PairR w lo hi e u v xs ys) (h1 : lo' ≤ lo) (h2 : hi ≤ hi') : PairR w lo' hi' e u v xs ys := by
  obtain ⟨lo1, hi1, lo2, hi2, g1, g2, a, b, c, d, f, l, m⟩ := h
  exact ⟨lo1, hi1, lo2, hi2, g1, g2, by omega, by omega, c, by omega, by omega, l, m⟩
theorem OwnR.wide (h : OwnR w lo hi e u xs) (h1 : lo' ≤ lo) (h2 : hi ≤ hi') : OwnR w lo' hi' e u xs := ⟨h.1.rebase h1, fun k hk => Nat.lt_of_lt_of_le (h.2 k hk) h2⟩
end
theorem Only.cell {w w' : World} {lo hi b o : Nat} (ho : Only lo hi w w') (h : b < w.heap.size) (hd : b < lo ∨ hi ≤ b) : w'.cell? ⟨b, o, none⟩ = w.cell? ⟨b, o, none⟩ := World.cell?_of_block (w := w) (ho.block b h hd)
theorem Only.wide {w w' : World} {lo hi lo' hi' : Nat} (ho : Only lo hi w w') (h1 : lo' ≤ lo) (h2 : hi ≤ hi') : Only lo' hi' w w' := ⟨ho.os, ho.tape, ho.output, ho.size, fun k hk h => ho.block k hk (by omega)⟩
theorem OwnR.far {w : World} {lo hi e : Nat} {v : Value} {xs : List Int} (h : OwnR w lo hi e v xs) (p : Addr) (u : Value) (hp : p.block < lo ∨ hi ≤ p.block) : OwnR (w.setCell p u) lo hi e v xs := h.only (Only.setCell w p u) (by omega)
theorem OwnR.allocd {w : World} {lo hi e : Nat} {v : Value} {xs : List Int} (h : OwnR w lo hi e v xs) (o : Obj) (hh : hi ≤ w.heap.size) : OwnR (w.alloc o) lo hi e v xs := h.below ((Below.refl w.heap.size w).alloc (Nat.le_refl _) o) hh
theorem PairR.far {w : World} {lo hi e : Nat} {u v : Value} {xs ys : List Int} (h : PairR w lo hi e u v xs ys) (p : Addr) (x : Value) (hp : p.block < lo ∨ hi ≤ p.block) : PairR (w.setCell p x) lo hi e u v xs ys := h.across (Below.refl _ _) (Only.setCell w p x) (by omega)
theorem PairR.allocd {w : World} {lo hi e : Nat} {u v : Value} {xs ys : List Int} (h : PairR w lo hi e u v xs ys) (o : Obj) (hh : hi ≤ w.heap.size) : PairR (w.alloc o) lo hi e u v xs ys := h.here ((Below.refl w.heap.size w).alloc (Nat.le_refl _) o |>.mono hh)
/-- A fraction of the call's own is handed back: its sign s, its lists xs and ys. -/
def RetRat (e : TypeId) (s : Bool) (xs ys : List Int) (w : World) (en : Ending) (w' : World) : Prop :=
  ∃ A n c B m d, en = .returned (.agg #[.bool s, .slice A n c, .slice B m d]) ∧ PairR w' w.heap.size w'.heap.size e (.slice A n c) (.slice B m d) xs ys ∧ Below w.heap.size w w'

set_option maxHeartbeats 1000000 in
theorem laws_toRat (s : Bool) (A B : Option Addr) (n c m d : Nat) (xs ys : List Int) (w : World) (h : Sl w (.slice A n c) xs) (g : Sl w (.slice B m d) ys) (hl : xs.length ≤ 1048576) (gl : ys.length ≤ 1048576) :
    Calls Tryd.prog 25 #[.agg #[.bool s, .slice A n c, .slice B m d]] w (RetRat 3 s xs ys w) := by
  have HS := Lib.hid h
  have HG := Lib.hid g
  clear h g
  go_enter Tryd.func25, Tryd.ntmps25
  go_wp2_with fail
  refine (laws_toBigInt s A n c xs _ (HS.out.below (by repeat' (first | (with_reducible exact Below.refl _ _) | (with_reducible refine Below.alloc ?_ ?_ _) | (with_reducible refine Below.setCell ?_ ?_ _) | (with_reducible refine below_drewN ?_ _) | (with_reducible refine Below.drew ?_) | (with_reducible refine below_step (by assumption) ?_ ?_) | omega | (simp; done) | (simp; omega)))) hl).mono ?_
  rintro e w1 ⟨A1, n1, c1, rfl, o1, b1⟩
  have O1 := Lib.hid ((OwnR.of o1).wide (lo' := w.heap.size + 1 + 1 + 1) (by first | omega | (simp; done) | (simp; omega)) (Nat.le_refl _))
  clear o1
  obtain ⟨hc, hf⟩ := bxcell b1
  have hz := b1.size
  simp at hz
  have z_w1_0 : w.heap.size < w1.heap.size := (by omega); have z_w1_1 : w.heap.size + 1 < w1.heap.size := (by omega); have z_w1_2 : w.heap.size + 1 + 1 < w1.heap.size := (by omega)
  go_wp2_with fail
  refine (laws_toIntS _ ys _ (HG.out.below (by repeat' (first | (with_reducible exact Below.refl _ _) | (with_reducible refine Below.alloc ?_ ?_ _) | (with_reducible refine Below.setCell ?_ ?_ _) | (with_reducible refine below_drewN ?_ _) | (with_reducible refine Below.drew ?_) | (with_reducible refine below_step (by assumption) ?_ ?_) | omega | (simp; done) | (simp; omega)))) gl).mono ?_
  rintro e w2 ⟨r2, rfl, o2, b2⟩
  obtain ⟨D, cd, hv, e1, e2, e3⟩ := o2.form
  subst hv
  clear e1 e2 e3
  have O2 := Lib.hid ((OwnR.of o2).wide (lo' := w1.heap.size) (by first | omega | (simp; done) | (simp; omega)) (Nat.le_refl _))
  have P1 := Lib.hid (((O1.out.far _ _ (.inl (by first | omega | (simp; done) | (simp; omega)))).far _ _ (.inl (by first | omega | (simp; done) | (simp; omega)))).below b2 (by first | omega | (simp; done) | (simp; omega)))
  clear o2 O1
  obtain ⟨hc2, hf2⟩ := bxcell b2
  have hz2 := b2.size
  simp at hz2
  have z_w2_0 : w.heap.size < w2.heap.size := (by omega); have z_w2_1 : w.heap.size + 1 < w2.heap.size := (by omega); have z_w2_2 : w.heap.size + 1 + 1 < w2.heap.size := (by omega)
  go_wp2_with fail
  refine bodyPost_ret (v := .agg #[.bool s, .slice A1 n1 c1, .slice D ys.length cd]) (by simp [results, Tryd.results25, go_sem, *]) rfl ⟨_, _, _, _, _, _, rfl, ?_, (by repeat' (first | (with_reducible exact Below.refl _ _) | (with_reducible refine Below.alloc ?_ ?_ _) | (with_reducible refine Below.setCell ?_ ?_ _) | (with_reducible refine below_drewN ?_ _) | (with_reducible refine Below.drew ?_) | (with_reducible refine below_step (by assumption) ?_ ?_) | omega | (simp; done) | (simp; omega)))⟩
  refine PairR.mk' (lo1 := w.heap.size + 1 + 1 + 1) (hi1 := w1.heap.size) (lo2 := w1.heap.size) (hi2 := w2.heap.size) ?_ ?_ (by first | omega | (simp; done) | (simp; omega)) (by first | omega | (simp; done) | (simp; omega)) (.inl (Nat.le_refl _)) (by first | omega | (simp; done) | (simp; omega)) (by first | omega | (simp; done) | (simp; omega)) (by first | omega | (simp; done) | (simp; omega)) (by first | omega | (simp; done) | (simp; omega))
  · have hp := P1.out
    repeat' (first | (with_reducible exact hp) | (with_reducible refine OwnR.far ?_ _ _ ?_) | (left; first | omega | (simp; done) | (simp; omega)))
  · have hp := O2.out
    repeat' (first | (with_reducible exact hp) | (with_reducible refine OwnR.far ?_ _ _ ?_) | (left; first | omega | (simp; done) | (simp; omega)))

theorem laws_szBigR (s : Bool) (A : Option Addr) (n c : Nat) (k : Int) (w : World) (hn : n ≤ 9223372036854775807) (k0 : -1 ≤ k) (k1 : k ≤ 1048576) :
    Calls Tryd.prog 18 #[.agg #[.bool s, .slice A n c], .int .i64 k] w fun e w' => ∃ t : Int, e = .returned (.int .i64 t) ∧ (t = -1 ∨ 0 ≤ t ∧ t + n ≤ k) ∧ Below w.heap.size w w' :=
  (laws_szBigInt s A n c k w hn k0 k1).mono fun _ _ ⟨he, hw⟩ => ⟨_, he, by split <;> omega, hw⟩
theorem laws_szIntsR (A : Option Addr) (n c : Nat) (k : Int) (w : World) (hn : n ≤ 9223372036854775807) (k0 : -1 ≤ k) (k1 : k ≤ 1048576) :
    Calls Tryd.prog 59 #[.slice A n c, .int .i64 k] w fun e w' => ∃ t : Int, e = .returned (.int .i64 t) ∧ (t = -1 ∨ 0 ≤ t ∧ t + n ≤ k) ∧ Below w.heap.size w w' :=
  (laws_szIntS A n c k w hn k0 k1).mono fun _ _ ⟨he, hw⟩ => ⟨_, he, by split <;> omega, hw ▸ Below.refl _ _⟩
set_option maxHeartbeats 1000000 in
theorem laws_szRatR (s : Bool) (A : Option Addr) (n c : Nat) (B : Option Addr) (m d : Nat) (k : Int) (w : World) (hn : n ≤ 9223372036854775807) (hm : m ≤ 9223372036854775807) (k0 : -1 ≤ k) (k1 : k ≤ 1048576) :
    Calls Tryd.prog 23 #[.agg #[.bool s, .slice A n c, .slice B m d], .int .i64 k] w fun e w' => ∃ t : Int, e = .returned (.int .i64 t) ∧ (t = -1 ∨ 0 ≤ t ∧ t + n + m ≤ k) ∧ Below w.heap.size w w' := by
  go_enter Tryd.func23, Tryd.ntmps23
  go_wp2_with fail
  refine (laws_szBigR s A n c k _ hn k0 k1).mono ?_
  rintro e w1 ⟨t, rfl, ht, b1⟩
  obtain ⟨hc, hf⟩ := bxcell b1
  have hz := b1.size
  simp at hz
  rcases ht with rfl | ⟨t0, t1⟩
  · go_wp2
    go_ret
    exact ⟨_, rfl, .inl rfl, (by repeat' (first | (with_reducible exact Below.refl _ _) | (with_reducible refine Below.alloc ?_ ?_ _) | (with_reducible refine Below.setCell ?_ ?_ _) | (with_reducible refine below_drewN ?_ _) | (with_reducible refine Below.drew ?_) | (with_reducible refine below_step (by assumption) ?_ ?_) | omega | (simp; done) | (simp; omega)))⟩
  · go_wp2_with fail
    refine (laws_szIntsR B m d t _ hm (by omega) (by omega)).mono ?_
    rintro e w2 ⟨t2, rfl, ht2, b2⟩
    rcases ht2 with rfl | ⟨t3, t4⟩
    · go_wp2
      go_ret
      exact ⟨_, rfl, .inl rfl, (by repeat' (first | (with_reducible exact Below.refl _ _) | (with_reducible refine Below.alloc ?_ ?_ _) | (with_reducible refine Below.setCell ?_ ?_ _) | (with_reducible refine below_drewN ?_ _) | (with_reducible refine Below.drew ?_) | (with_reducible refine below_step (by assumption) ?_ ?_) | omega | (simp; done) | (simp; omega)))⟩
    · go_wp2
      go_ret
      exact ⟨_, rfl, .inr ⟨t3, by omega⟩, (by repeat' (first | (with_reducible exact Below.refl _ _) | (with_reducible refine Below.alloc ?_ ?_ _) | (with_reducible refine Below.setCell ?_ ?_ _) | (with_reducible refine below_drewN ?_ _) | (with_reducible refine Below.drew ?_) | (with_reducible refine below_step (by assumption) ?_ ?_) | omega | (simp; done) | (simp; omega)))⟩

set_option maxHeartbeats 1000000 in
theorem eqRat (s : Bool) (A B A' B' : Option Addr) (n c m d n' c' m' d' : Nat) (xs ys : List Int) (w : World) (hu : Sl w (.slice A n c) xs) (hu2 : Sl w (.slice B m d) ys) (hv : Sl w (.slice A' n' c') xs) (hv2 : Sl w (.slice B' m' d') ys) :
    Calls Tryd.prog 27 #[.agg #[.bool s, .slice A n c, .slice B m d], .agg #[.bool s, .slice A' n' c', .slice B' m' d']] w fun e w' => e = .returned (.bool true) ∧ Below w.heap.size w w' := by
  have HU := Lib.hid hu
  have HV := Lib.hid hv
  have HU2 := Lib.hid hu2
  have HV2 := Lib.hid hv2
  clear hu hv hu2 hv2
  go_enter Tryd.func27, Tryd.ntmps27
  go_wp2_with fail
  refine (eqBig s _ _ _ _ _ _ xs _ (HU.out.below (by repeat' (first | (with_reducible exact Below.refl _ _) | (with_reducible refine Below.alloc ?_ ?_ _) | (with_reducible refine Below.setCell ?_ ?_ _) | (with_reducible refine below_drewN ?_ _) | (with_reducible refine Below.drew ?_) | (with_reducible refine below_step (by assumption) ?_ ?_) | omega | (simp; done) | (simp; omega)))) (HV.out.below (by repeat' (first | (with_reducible exact Below.refl _ _) | (with_reducible refine Below.alloc ?_ ?_ _) | (with_reducible refine Below.setCell ?_ ?_ _) | (with_reducible refine below_drewN ?_ _) | (with_reducible refine Below.drew ?_) | (with_reducible refine below_step (by assumption) ?_ ?_) | omega | (simp; done) | (simp; omega))))).mono ?_
  rintro e w1 ⟨rfl, b1⟩
  obtain ⟨hc, hf⟩ := bxcell b1
  have hz := b1.size
  simp at hz
  go_wp2_with fail
  refine (eqInts _ _ ys _ (HU2.out.below (by repeat' (first | (with_reducible exact Below.refl _ _) | (with_reducible refine Below.alloc ?_ ?_ _) | (with_reducible refine Below.setCell ?_ ?_ _) | (with_reducible refine below_drewN ?_ _) | (with_reducible refine Below.drew ?_) | (with_reducible refine below_step (by assumption) ?_ ?_) | omega | (simp; done) | (simp; omega)))) (HV2.out.below (by repeat' (first | (with_reducible exact Below.refl _ _) | (with_reducible refine Below.alloc ?_ ?_ _) | (with_reducible refine Below.setCell ?_ ?_ _) | (with_reducible refine below_drewN ?_ _) | (with_reducible refine Below.drew ?_) | (with_reducible refine below_step (by assumption) ?_ ?_) | omega | (simp; done) | (simp; omega))))).mono ?_
  rintro e w2 ⟨rfl, b2⟩
  go_wp2
  go_ret
  exact ⟨rfl, (by repeat' (first | (with_reducible exact Below.refl _ _) | (with_reducible refine Below.alloc ?_ ?_ _) | (with_reducible refine Below.setCell ?_ ?_ _) | (with_reducible refine below_drewN ?_ _) | (with_reducible refine Below.drew ?_) | (with_reducible refine below_step (by assumption) ?_ ?_) | omega | (simp; done) | (simp; omega)))⟩

set_option maxHeartbeats 1000000 in
theorem markRat (s : Bool) (A B : Option Addr) (n c m d : Nat) (xs ys : List Int) (k : Int) (lo hi : Nat) (w : World) (h : PairR w lo hi 3 (.slice A n c) (.slice B m d) xs ys) (hl : lo ≤ w.heap.size) (hh : hi ≤ w.heap.size) (k0 : 0 ≤ k) (k1 : k + xs.length + ys.length ≤ 4611686018427387904) :
    Calls Tryd.prog 32 #[.agg #[.bool s, .slice A n c, .slice B m d], .int .i64 k] w fun en w' => en = .returned (.int .i64 (k + xs.length + ys.length)) ∧ PairR w' lo hi 3 (.slice A n c) (.slice B m d) (marks k xs.length) (marks (k + xs.length) ys.length) ∧ Only lo hi w w' ∧ Below lo w w' := by
  obtain ⟨lo1, hi1, lo2, hi2, h1, h2, p1, p2, p3, p4, p5, p6, p7⟩ := h
  have HU := Lib.hid h1
  have HV := Lib.hid h2
  clear h1 h2
  go_enter Tryd.func32, Tryd.ntmps32
  go_wp2_with fail
  have B0 := (Below.refl w.heap.size w).alloc (Nat.le_refl _) (.cells #[.bool s, .slice A n c, .slice B m d] 42)
  refine (markBig s A n c xs k lo1 hi1 _ (HU.out.below B0 (by omega)) (by simp; omega) (by simp; omega) k0 (by omega)).mono ?_
  rintro e w1 ⟨rfl, O1, f1, b1⟩
  have HO := Lib.hid O1
  have hz := b1.size
  simp at hz
  have y0 : w.heap.size < w1.heap.size := by omega
  have q0 : w1.cell? ⟨w.heap.size, 0, none⟩ = some (.bool s) := by rw [f1.cell (by simp) (by omega)]; simp [go_sem]
  have q1 : w1.cell? ⟨w.heap.size, 1, none⟩ = some (.slice A n c) := by rw [f1.cell (by simp) (by omega)]; simp [go_sem]
  have q2 : w1.cell? ⟨w.heap.size, 2, none⟩ = some (.slice B m d) := by rw [f1.cell (by simp) (by omega)]; simp [go_sem]
  have HV1 := Lib.hid ((HV.out.below B0 (by omega)).only f1 (by omega))
  have F1 := Lib.hid ((Only.of_below B0).trans (f1.wide p1 p4))
  clear O1 b1 f1
  go_wp2_with fail
  refine (markInts _ ys (k + xs.length) lo2 hi2 _ HV1.out (by omega) (by omega) (by omega)).mono ?_
  rintro e w2 ⟨rfl, O2, f2, b2⟩
  have HO2 := Lib.hid O2
  have F2 := Lib.hid f2
  clear O2 f2 b2
  go_wp2
  go_ret
  have F3 := F1.out.trans (F2.out.wide p2 p5)
  exact ⟨rfl, ⟨lo1, hi1, lo2, hi2, HO.out.only F2.out (by omega), HO2.out, p1, p2, p3, p4, p5, p6, p7⟩, F3, F3.below hl⟩

set_option maxHeartbeats 1000000 in
theorem heldRat (s : Bool) (A B : Option Addr) (n c m d : Nat) (p q : Nat) (k : Int) (w : World) (h : Sl w (.slice A n c) (marks k p)) (g : Sl w (.slice B m d) (marks (k + p) q)) (k0 : 0 ≤ k) (k1 : k + p + q ≤ 4611686018427387904) :
    Calls Tryd.prog 33 #[.agg #[.bool s, .slice A n c, .slice B m d], .int .i64 k] w fun en w' => en = .returned (.int .i64 (k + p + q)) ∧ Below w.heap.size w w' := by
  have HU := Lib.hid h
  have HV := Lib.hid g
  clear h g
  have hk : ¬ (k + (p : Int) < 0) := by omega
  have hk2 : ¬ (k + (p : Int) + (q : Int) < 0) := by omega
  go_enter Tryd.func33, Tryd.ntmps33
  go_wp2_with fail
  refine (heldBig s _ _ _ p k _ (HU.out.below (by repeat' (first | (with_reducible exact Below.refl _ _) | (with_reducible refine Below.alloc ?_ ?_ _) | (with_reducible refine Below.setCell ?_ ?_ _) | (with_reducible refine below_drewN ?_ _) | (with_reducible refine Below.drew ?_) | (with_reducible refine below_step (by assumption) ?_ ?_) | omega | (simp; done) | (simp; omega)))) k0 (by omega)).mono ?_
  rintro e w1 ⟨rfl, b1⟩
  obtain ⟨hc, hf⟩ := bxcell b1
  have hz := b1.size
  simp at hz
  go_wp2_with fail
  refine (heldInts _ q (k + p) _ (HV.out.below (by repeat' (first | (with_reducible exact Below.refl _ _) | (with_reducible refine Below.alloc ?_ ?_ _) | (with_reducible refine Below.setCell ?_ ?_ _) | (with_reducible refine below_drewN ?_ _) | (with_reducible refine Below.drew ?_) | (with_reducible refine below_step (by assumption) ?_ ?_) | omega | (simp; done) | (simp; omega)))) (by omega) (by omega)).mono ?_
  rintro e w2 ⟨rfl, b2⟩
  go_wp2
  go_ret
  exact ⟨rfl, (by repeat' (first | (with_reducible exact Below.refl _ _) | (with_reducible refine Below.alloc ?_ ?_ _) | (with_reducible refine Below.setCell ?_ ?_ _) | (with_reducible refine below_drewN ?_ _) | (with_reducible refine Below.drew ?_) | (with_reducible refine below_step (by assumption) ?_ ?_) | omega | (simp; done) | (simp; omega)))⟩
end Go.Proofs.YticekjagmcphbaaDoor
