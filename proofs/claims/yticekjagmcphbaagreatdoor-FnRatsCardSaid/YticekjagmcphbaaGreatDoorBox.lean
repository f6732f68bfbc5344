/-
  A new box that holds a big int or a fraction: for the cuts in the laws' walks. Written by an AI agent.
-/
import Derived.Test.YticekjagmcphbaaGreatDoorRat
namespace Go.Proofs.YticekjagmcphbaaGreatDoor
open Go.RowKit

/-- A new box (its pointer p) that holds a big int: its sign s, its list xs, of the run's own since w0. -/
def BoxZ (w0 : World) (e : TypeId) (s : Bool) (xs : List Int) (p : Value) (w : World) : Prop :=
  ∃ g A n c lo hi, p = .pointer (some ⟨g, 0, none⟩) ∧ w0.heap.size ≤ g ∧ g < w.heap.size ∧ w0.heap.size ≤ lo ∧ lo ≤ w.heap.size ∧ hi ≤ w.heap.size ∧ (g < lo ∨ hi ≤ g) ∧ OwnR w lo hi e (.slice A n c) xs ∧
    w.cell? ⟨g, 0, none⟩ = some (.bool s) ∧ w.cell? ⟨g, 1, none⟩ = some (.slice A n c) ∧ Below w0.heap.size w0 w
theorem ne_off {g i j : Nat} (h : i ≠ j) : (⟨g, i, none⟩ : Addr) ≠ ⟨g, j, none⟩ := fun e => h (by cases e; rfl)
theorem far_cell (w : World) (g i j : Nat) (v : Value) (h : i ≠ j) : (w.setCell ⟨g, i, none⟩ v).cell? ⟨g, j, none⟩ = w.cell? ⟨g, j, none⟩ := World.cell?_setCell_other (h := ne_off h) ..
theorem two_cells {w : World} {g : Nat} {u v : Value} (h0 : (w.cell? ⟨g, 0, none⟩).isSome = true) (h1 : (w.cell? ⟨g, 1, none⟩).isSome = true) :
    ((w.setCell ⟨g, 0, none⟩ u).setCell ⟨g, 1, none⟩ v).cell? ⟨g, 0, none⟩ = some u ∧ ((w.setCell ⟨g, 0, none⟩ u).setCell ⟨g, 1, none⟩ v).cell? ⟨g, 1, none⟩ = some v := by
  constructor
  · rw [far_cell _ _ 1 0 _ (by decide), World.cell?_setCell_same' _ _ _ h0]
  · rw [World.cell?_setCell_same']
    rw [far_cell _ _ 0 1 _ (by decide)]
    exact h1
theorem BoxZ.new {w0 w : World} {e T lo hi : Nat} {s : Bool} {xs : List Int} {A : Option Addr} {n c : Nat} (o : OwnR w lo hi e (.slice A n c) xs) (h1 : w0.heap.size ≤ lo) (h2 : lo ≤ w.heap.size) (h3 : hi ≤ w.heap.size) (hb : Below w0.heap.size w0 w) :
    BoxZ w0 e s xs (.pointer (some ⟨w.heap.size, 0, none⟩)) (w.alloc (.cells #[.bool s, .slice A n c] T)) := by
  have hB := Blk.new w T #[.bool s, .slice A n c]
  refine ⟨w.heap.size, A, n, c, lo, hi, rfl, hb.size, by simp, h1, by simp; omega, by simp; omega, .inr h3, o.allocd _ h3, (hB.cell 0).trans rfl, (hB.cell 1).trans rfl, hb.alloc hb.size _⟩
theorem BoxZ.set {w0 w : World} {e lo hi g : Nat} {s : Bool} {xs : List Int} {A : Option Addr} {n c : Nat} (o : OwnR w lo hi e (.slice A n c) xs) (hd : g < lo ∨ hi ≤ g) (g1 : w0.heap.size ≤ g) (g2 : g < w.heap.size)
    (c0 : (w.cell? ⟨g, 0, none⟩).isSome = true) (c1 : (w.cell? ⟨g, 1, none⟩).isSome = true) (h1 : w0.heap.size ≤ lo) (h2 : lo ≤ w.heap.size) (h3 : hi ≤ w.heap.size) (hb : Below w0.heap.size w0 w) :
    BoxZ w0 e s xs (.pointer (some ⟨g, 0, none⟩)) ((w.setCell ⟨g, 0, none⟩ (.bool s)).setCell ⟨g, 1, none⟩ (.slice A n c)) := by
  obtain ⟨k0, k1⟩ := two_cells (u := .bool s) (v := .slice A n c) c0 c1
  exact ⟨g, A, n, c, lo, hi, rfl, g1, by simpa using g2, h1, by simpa using h2, by simpa using h3, hd, (o.far _ _ hd).far _ _ hd, k0, k1, (hb.setCell g1 _).setCell g1 _⟩
/-- A new box (its pointer p) that holds a fraction: its sign s, its lists xs, ys, of the run's own since w0. -/
def BoxQ (w0 : World) (e : TypeId) (s : Bool) (xs ys : List Int) (p : Value) (w : World) : Prop :=
  ∃ g A n c B m d lo hi, p = .pointer (some ⟨g, 0, none⟩) ∧ w0.heap.size ≤ g ∧ g < w.heap.size ∧ w0.heap.size ≤ lo ∧ lo ≤ w.heap.size ∧ hi ≤ w.heap.size ∧ (g < lo ∨ hi ≤ g) ∧ PairR w lo hi e (.slice A n c) (.slice B m d) xs ys ∧
    w.cell? ⟨g, 0, none⟩ = some (.bool s) ∧ w.cell? ⟨g, 1, none⟩ = some (.slice A n c) ∧ w.cell? ⟨g, 2, none⟩ = some (.slice B m d) ∧ Below w0.heap.size w0 w
theorem three_cells {w : World} {g : Nat} {u v x : Value} (h0 : (w.cell? ⟨g, 0, none⟩).isSome = true) (h1 : (w.cell? ⟨g, 1, none⟩).isSome = true) (h2 : (w.cell? ⟨g, 2, none⟩).isSome = true) :
    (((w.setCell ⟨g, 0, none⟩ u).setCell ⟨g, 1, none⟩ v).setCell ⟨g, 2, none⟩ x).cell? ⟨g, 0, none⟩ = some u ∧ (((w.setCell ⟨g, 0, none⟩ u).setCell ⟨g, 1, none⟩ v).setCell ⟨g, 2, none⟩ x).cell? ⟨g, 1, none⟩ = some v ∧ (((w.setCell ⟨g, 0, none⟩ u).setCell ⟨g, 1, none⟩ v).setCell ⟨g, 2, none⟩ x).cell? ⟨g, 2, none⟩ = some x := by
  obtain ⟨k0, k1⟩ := two_cells (u := u) (v := v) h0 h1
  refine ⟨?_, ?_, ?_⟩
  · rw [far_cell _ _ 2 0 _ (by decide), k0]
  · rw [far_cell _ _ 2 1 _ (by decide), k1]
  · rw [World.cell?_setCell_same']
    rw [far_cell _ _ 1 2 _ (by decide), far_cell _ _ 0 2 _ (by decide)]
    exact h2
theorem BoxQ.new {w0 w : World} {e T lo hi : Nat} {s : Bool} {xs ys : List Int} {A B : Option Addr} {n c m d : Nat} (o : PairR w lo hi e (.slice A n c) (.slice B m d) xs ys) (h1 : w0.heap.size ≤ lo) (h2 : lo ≤ w.heap.size) (h3 : hi ≤ w.heap.size) (hb : Below w0.heap.size w0 w) :
    BoxQ w0 e s xs ys (.pointer (some ⟨w.heap.size, 0, none⟩)) (w.alloc (.cells #[.bool s, .slice A n c, .slice B m d] T)) := by
  have hB := Blk.new w T #[.bool s, .slice A n c, .slice B m d]
  refine ⟨w.heap.size, A, n, c, B, m, d, lo, hi, rfl, hb.size, by simp, h1, by simp; omega, by simp; omega, .inr h3, o.allocd _ h3, (hB.cell 0).trans rfl, (hB.cell 1).trans rfl, (hB.cell 2).trans rfl, hb.alloc hb.size _⟩
theorem BoxQ.set {w0 w : World} {e lo hi g : Nat} {s : Bool} {xs ys : List Int} {A B : Option Addr} {n c m d : Nat} (o : PairR w lo hi e (.slice A n c) (.slice B m d) xs ys) (hd : g < lo ∨ hi ≤ g) (g1 : w0.heap.size ≤ g) (g2 : g < w.heap.size)
    (c0 : (w.cell? ⟨g, 0, none⟩).isSome = true) (c1 : (w.cell? ⟨g, 1, none⟩).isSome = true) (c2 : (w.cell? ⟨g, 2, none⟩).isSome = true) (h1 : w0.heap.size ≤ lo) (h2 : lo ≤ w.heap.size) (h3 : hi ≤ w.heap.size) (hb : Below w0.heap.size w0 w) :
    BoxQ w0 e s xs ys (.pointer (some ⟨g, 0, none⟩)) (((w.setCell ⟨g, 0, none⟩ (.bool s)).setCell ⟨g, 1, none⟩ (.slice A n c)).setCell ⟨g, 2, none⟩ (.slice B m d)) := by
  obtain ⟨k0, k1, k2⟩ := three_cells (u := .bool s) (v := .slice A n c) (x := .slice B m d) c0 c1 c2
  exact ⟨g, A, n, c, B, m, d, lo, hi, rfl, g1, by simpa using g2, h1, by simpa using h2, by simpa using h3, hd, ((o.far _ _ hd).far _ _ hd).far _ _ hd, k0, k1, k2, ((hb.setCell g1 _).setCell g1 _).setCell g1 _⟩
end Go.Proofs.YticekjagmcphbaaGreatDoor
