/-
  Objects that a law holds: which blocks they lie in, and what a mark of one leaves of the others. Written by an AI agent.
-/
import Derived.Test.YticekjagmcphbaaGreatDoorApp
namespace Go.Proofs.YticekjagmcphbaaGreatDoor
open Go.RowKit

/-- The slice value v is a row of the call's own, of the ints xs, in a block from lo up to hi. -/
def OwnR (w : World) (lo hi e : Nat) (v : Value) (xs : List Int) : Prop := Own w lo e v xs ∧ ∀ k, v.ownBlock = some k → k < hi
/-- Of the blocks that were there, at most those from lo up to hi have turned. -/
structure Only (lo hi : Nat) (w w' : World) : Prop where
  os : w'.os = w.os
  tape : w'.tape = w.tape
  output : w'.output = w.output
  size : w.heap.size ≤ w'.heap.size
  block : ∀ k, k < w.heap.size → k < lo ∨ hi ≤ k → w'.heap[k]? = w.heap[k]?

section
variable {w w' : World} {v : Value} {xs : List Int} {lo hi lo' hi' e : Nat}
theorem OwnR.of (h : Own w lo e v xs) : OwnR w lo w.heap.size e v xs := ⟨h, fun k hk => (h.lt k hk).2⟩
theorem OwnR.sl (h : OwnR w lo hi e v xs) : Sl w v xs := h.1.sl
theorem OwnR.below (h : OwnR w lo hi e v xs) {B : Nat} (hb : Below B w w') (hB : hi ≤ B) : OwnR w' lo hi e v xs := by
  refine ⟨?_, h.2⟩
  refine ⟨h.1.1, ?_⟩
  rcases h.1.2 with hn | ⟨g, cap, cur, rfl, hbg, hh, r⟩
  · exact .inl hn
  · have hg := h.2 g rfl
    exact .inr ⟨g, cap, cur, rfl, hbg, by rw [hb.block g (by omega)]; exact hh, r⟩
theorem OwnR.only (h : OwnR w lo hi e v xs) (ho : Only lo' hi' w w') (hd : hi ≤ lo' ∨ hi' ≤ lo) : OwnR w' lo hi e v xs := by
  refine ⟨?_, h.2⟩
  refine ⟨h.1.1, ?_⟩
  rcases h.1.2 with hn | ⟨g, cap, cur, rfl, hbg, hh, r⟩
  · exact .inl hn
  · have hg := h.2 g rfl
    exact .inr ⟨g, cap, cur, rfl, hbg, by rw [ho.block g (Array.getElem?_eq_some_iff.1 hh).1 (by omega)]; exact hh, r⟩
theorem OwnR.use (h : OwnR w lo hi e v xs) (hb : Below hi w w') : Sl w' v xs := (h.below hb (Nat.le_refl _)).sl
theorem OwnR.here (h : OwnR w lo hi e v xs) (hb : Below hi w w') : OwnR w' lo hi e v xs := h.below hb (Nat.le_refl _)
theorem OwnR.across {w'' : World} (h : OwnR w lo hi e v xs) (hb : Below hi w w') (ho : Only lo' hi' w' w'') (hd : hi ≤ lo' ∨ hi' ≤ lo) : OwnR w'' lo hi e v xs := (h.below hb (Nat.le_refl _)).only ho hd
theorem Only.below (ho : Only lo hi w w') (hl : lo ≤ w.heap.size) : Below lo w w' := ⟨ho.os, ho.tape, ho.output, ho.size, fun k hk => ho.block k (by omega) (.inl hk)⟩
theorem Only.refl (lo hi : Nat) (w : World) : Only lo hi w w := ⟨rfl, rfl, rfl, Nat.le_refl _, fun _ _ _ => rfl⟩
theorem Only.trans {w'' : World} (h : Only lo hi w w') (k : Only lo hi w' w'') : Only lo hi w w'' :=
  ⟨k.os.trans h.os, k.tape.trans h.tape, k.output.trans h.output, Nat.le_trans h.size k.size, fun i hi ho => (k.block i (Nat.lt_of_lt_of_le hi h.size) ho).trans (h.block i hi ho)⟩
theorem Only.of_below (h : Below w.heap.size w w') : Only lo hi w w' := ⟨h.os, h.tape, h.output, h.size, fun k hk _ => h.block k hk⟩
theorem Only.of_grown (h : OwnR w lo hi e v xs) (hg : w.grownBy w' v.ownBlock) : Only lo hi w w' :=
  ⟨hg.os, hg.tape, hg.output, hg.size, fun k hk ho => hg.block k hk (fun he => by
    have h1 := (h.1.lt k he.symm).1
    have h2 := h.2 k he.symm
    omega)⟩
theorem below_of_same (h : ∃ n, w' = w.drewN n) : Below w.heap.size w w' := by
  obtain ⟨n, rfl⟩ := h
  exact below_drewN (Below.refl _ _) n
end

theorem Only.setCell (w : World) (p : Addr) (u : Value) : Only p.block (p.block + 1) w (w.setCell p u) := by
  have hb := (Below.refl p.block w).setCell (Nat.le_refl _) u
  exact ⟨hb.os, hb.tape, hb.output, hb.size, fun k _ h => Below.heap_setCell w p u k (by omega)⟩
theorem Own.far {w : World} {lo e : Nat} {v : Value} {xs : List Int} (h : Own w lo e v xs) (p : Addr) (u : Value) (hp : p.block < lo) : Own (w.setCell p u) lo e v xs :=
  ((OwnR.of h).only (Only.setCell w p u) (.inr hp)).1
/-- Two lists of ints are the same. -/
def sameI (xs ys : List Int) : Bool := decide (xs = ys)
end Go.Proofs.YticekjagmcphbaaGreatDoor
