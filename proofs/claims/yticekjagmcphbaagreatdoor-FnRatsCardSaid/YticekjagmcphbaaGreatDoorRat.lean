/-
  The laws' helpers on fractions (a bool and two lists): copy, size, compare, mark. Written by an AI agent.
-/
import Derived.Test.YticekjagmcphbaaGreatDoorBig
namespace Go.Proofs.YticekjagmcphbaaGreatDoor
open Go.RowKit

/-- Two slice values are rows of the call's own, of the ints xs and ys, in blocks from lo up to hi, no block of one in the range of the other. -/
def PairR (w : World) (lo hi e : Nat) (u v : Value) (xs ys : List Int) : Prop :=
  ∃ lo1 hi1 lo2 hi2, OwnR w lo1 hi1 e u xs ∧ OwnR w lo2 hi2 e v ys ∧ lo ≤ lo1 ∧ lo ≤ lo2 ∧ (hi1 ≤ lo2 ∨ hi2 ≤ lo1) ∧ hi1 ≤ hi ∧ hi2 ≤ hi ∧ lo1 ≤ hi1 ∧ lo2 ≤ hi2
section
variable {w w' w'' : World} {u v : Value} {xs ys : List Int} {lo hi lo' hi' e : Nat}
theorem PairR.mk' {lo1 hi1 lo2 hi2 : Nat} (h1 : OwnR w lo1 hi1 e u xs) (h2 : OwnR w lo2 hi2 e v ys) (a : lo ≤ lo1) (b : lo ≤ lo2) (c : hi1 ≤ lo2 ∨ hi2 ≤ lo1) (d : hi1 ≤ hi) (f : hi2 ≤ hi) (l : lo1 ≤ hi1) (m : lo2 ≤ hi2) : PairR w lo hi e u v xs ys := ⟨lo1, hi1, lo2, hi2, h1, h2, a, b, c, d, f, l, m⟩
theorem PairR.sl1 (h : PairR w lo hi e u v xs ys) : Sl w u xs := by obtain ⟨_, _, _, _, h1, _⟩ := h; exact h1.sl
theorem PairR.sl2 (h : PairR w lo hi e u v xs ys) : Sl w v ys := by obtain ⟨_, _, _, _, _, h2, _⟩ := h; exact h2.sl
theorem PairR.here (h : PairR w lo hi e u v xs ys) (hb : Below hi w w') : PairR w' lo hi e u v xs ys := by
  obtain ⟨lo1, hi1, lo2, hi2, h1, h2, a, b, c, d, f, l, m⟩ := h
  exact ⟨lo1, hi1, lo2, hi2, h1.below hb d, h2.below hb f, a, b, c, d, f, l, m⟩
theorem PairR.across (h : PairR w lo hi e u v xs ys) (hb : Below hi w w') (ho : Only lo' hi' w' w'') (hd : hi ≤ lo' ∨ hi' ≤ lo) : PairR w'' lo hi e u v xs ys := by
  obtain ⟨lo1, hi1, lo2, hi2, h1, h2, a, b, c, d, f, l, m⟩ := h.here hb
  exact ⟨lo1, hi1, lo2, hi2, h1.only ho (by omega), h2.only ho (by omega), a, b, c, d, f, l, m⟩
theorem PairR.wide (h : PairR w lo hi e u v xs ys) (h1 : lo' ≤ lo) (h2 : hi ≤ hi') : PairR w lo' hi' e u v xs ys := by
  obtain ⟨lo1, hi1, lo2, hi2, g1, g2, a, b, c, d, f, l, m⟩ := h
  exact ⟨lo1, hi1, lo2, hi2, g1, g2, by omega, by omega, c, by omega, by omega, l, m⟩
theorem OwnR.wide (h : OwnR w lo hi e u xs) (h1 : lo' ≤ lo) (h2 : hi ≤ hi') : OwnR w lo' hi' e u xs := ⟨h.1.rebase h1, fun k hk => Nat.lt_of_lt_of_le (h.2 k hk) h2⟩
end
theorem Only.cell {w w' : World} {lo hi b o : Nat} (ho : Only lo hi w w') (h : b < w.heap.size) (hd : b < lo ∨ hi ≤ b) : w'.cell? ⟨b, o, none⟩ = w.cell? ⟨b, o, none⟩ := World.cell?_of_block (w := w) (ho.block b h hd)
theorem Only.wide {w w' : World} {lo hi lo' hi' : Nat} (ho : Only lo hi w w') (h1 : lo' ≤ lo) (h2 : hi ≤ hi') : Only lo' hi' w w' := ⟨ho.os, ho.tape, ho.output, ho.size, fun k hk h => ho.block k hk (by omega)⟩
theorem OwnR.far {w : World} {lo hi e : Nat} {v : Value} {xs : List Int} (h : OwnR w lo hi e v xs) (p : Addr) (u : Value) (hp : p.block < lo ∨ hi ≤ p.block) : OwnR (w.setCell p u) lo hi e v xs := h.only (Only.setCell w p u) (by omega)
theorem OwnR.allocd {w : World} {lo hi e : Nat} {v : Value} {xs : List Int} (h : OwnR w lo hi e v xs) (o : Obj) (hh : hi ≤ w.heap.size) : OwnR (w.alloc o) lo hi e v xs := h.below ((Below.refl w.heap.size w).alloc (Nat.le_refl _) o) hh
theorem PairR.far {w : World} {lo hi e : Nat} {u v : Value} {xs ys : List Int} (h : PairR w lo hi e u v xs ys) (p : Addr) (x : Value) (hp : p.block < lo ∨ hi ≤ p.block) : PairR (w.setCell p x) lo hi e u v xs ys := h.across (Below.refl _ _) (Only.setCell w p x) (by omega)
theorem PairR.allocd {w : World} {lo hi e : Nat} {u v : Value} {xs ys : List Int} (h : PairR w lo hi e u v xs ys) (o : Obj) (hh : hi ≤ w.heap.size) : PairR (w.alloc o) lo hi e u v xs ys := h.here ((Below.refl w.heap.size w).alloc (Nat.le_refl _) o |>.mono hh)
/-- A fraction of the call's own is handed back: its sign s, its lists xs and ys. -/
def RetRat (e : TypeId) (s : Bool) (xs ys : List Int) (w : World) (en : Ending) (w' : World) : Prop :=
  ∃ A n c B m d, en = .returned (.agg #[.bool s, .slice A n c, .slice B m d]) ∧ PairR w' w.heap.size w'.heap.size e (.slice A n c) (.slice B m d) xs ys ∧ Below w.heap.size w w'


end Go.Proofs.YticekjagmcphbaaGreatDoor
