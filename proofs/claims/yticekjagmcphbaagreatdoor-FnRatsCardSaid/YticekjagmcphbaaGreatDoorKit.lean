/-
  Words for slices of int that are read or owned. No program in sight. Written by an AI agent.
-/
import Derived.Test.YticekjagmcphbaaGreatDoorRows
import Derived.WalkKit
import Derived.WalkSpells
import Derived.WalkLawsBesides
import Derived.Laws.OwnMore
import Derived.Deep.Draws
import Derived.Lib.Hide
namespace Go.Proofs.YticekjagmcphbaaGreatDoor
open Go.RowKit

/-- The slice value v reads, in the world w, as the list of ints xs. -/
def Sl (w : World) (v : Value) (xs : List Int) : Prop :=
  ∃ A c, v = .slice A xs.length c ∧ xs.length ≤ c ∧ c ≤ maxLen ∧
    (0 < xs.length → ∃ b off, A = some ⟨b, off, none⟩ ∧ ∀ i d, xs[i]? = some d → w.cell? ⟨b, off + i, none⟩ = some (.int .i64 d))

/-- The slice value v is the call's own row (a block from 'base' on) of the ints xs. -/
def Own (w : World) (base : Nat) (e : TypeId) (v : Value) (xs : List Int) : Prop := w.ownsRow base e 1 v xs.length (xs.map (Value.int .i64))

section
variable {w w' : World} {v : Value} {xs : List Int} {base e : Nat}

theorem Sl.keep (h : Sl w v xs) (hk : ∀ p : Addr, (∃ u, w.cell? p = some u) → w'.cell? p = w.cell? p) : Sl w' v xs := by
  obtain ⟨A, c, rfl, h1, h2, h3⟩ := h
  refine ⟨A, c, rfl, h1, h2, fun hn => ?_⟩
  obtain ⟨b, off, rfl, hc⟩ := h3 hn
  exact ⟨b, off, rfl, fun i d hd => (hk _ ⟨_, hc i d hd⟩).trans (hc i d hd)⟩
theorem Sl.below (h : Sl w v xs) (hb : Below w.heap.size w w') : Sl w' v xs :=
  h.keep fun p ⟨_, hu⟩ => hb.cell (World.block_lt_of_cell? w p hu)
theorem Sl.alloc (h : Sl w v xs) (o : Obj) : Sl (w.alloc o) v xs := h.below ((Below.refl _ _).alloc (Nat.le_refl _) o)
theorem Sl.drew (h : Sl w v xs) : Sl w.drew v xs := h
theorem Sl.drewN (h : Sl w v xs) (n : Nat) : Sl (w.drewN n) v xs := h
theorem Sl.grown {row : Option Nat} (h : Sl w v xs) (hg : w.grownBy w' row) (hne : ∀ b, v.ownBlock = some b → row ≠ some b) : Sl w' v xs := by
  obtain ⟨A, c, rfl, h1, h2, h3⟩ := h
  refine ⟨A, c, rfl, h1, h2, fun hn => ?_⟩
  obtain ⟨b, off, rfl, hc⟩ := h3 hn
  refine ⟨b, off, rfl, fun i d hd => hg.cell (hc i d hd) (fun e => hne b rfl e.symm)⟩
theorem Own.sl (h : Own w base e v xs) : Sl w v xs := by
  have hc := @World.ownsRow.cells w base e 1 v xs.length _ h
  rcases h.2 with ⟨rfl, h0⟩ | ⟨g, cap, cur, rfl, _, _, hn, hm, _⟩
  · rw [← h0]
    exact ⟨none, 0, by rw [← h0], by omega, by simp [maxLen], fun h => by omega⟩
  · refine ⟨_, _, rfl, hn, hm, fun _ => ⟨g, 0, rfl, fun i d hd => ?_⟩⟩
    have := hc (g := g) rfl i (.int .i64 d) (by simp [hd])
    have hadd : (⟨g, 0, none⟩ : Addr).add i = ⟨g, 0 + i, none⟩ := by unfold Addr.add; split <;> simp_all
    rwa [hadd] at this
theorem Own.below (h : Own w base e v xs) (hb : Below w.heap.size w w') : Own w' base e v xs := by
  have hg : w.grownBy w' none := ⟨hb.os, hb.tape, hb.output, hb.size, fun k hk _ => hb.block k hk⟩
  exact World.ownsRow.kept h hg (by cases hv : v.ownBlock <;> simp)
theorem Own.alloc (h : Own w base e v xs) (o : Obj) : Own (w.alloc o) base e v xs := World.ownsRow.alloc h o
theorem Own.grown {row : Option Nat} (h : Own w base e v xs) (hg : w.grownBy w' row) (hne : ∀ b, v.ownBlock = some b → row ≠ some b) : Own w' base e v xs :=
  World.ownsRow.kept h hg (by
    cases hv : v.ownBlock with
    | none => exact .inl rfl
    | some b => exact .inr (fun e => hne b hv e.symm))
theorem Own.nil (w : World) (base e : Nat) : Own w base e (.slice none 0 0) [] := World.ownsRow_nil _ _ _ _
theorem Own.lt (h : Own w base e v xs) : ∀ k, v.ownBlock = some k → base ≤ k ∧ k < w.heap.size := World.ownsRow.lt h
theorem Own.rebase {base' : Nat} (h : Own w base e v xs) (hb : base' ≤ base) : Own w base' e v xs :=
  ⟨h.1, h.2.elim Or.inl (fun ⟨g, cap, cur, hv, hg, r⟩ => Or.inr ⟨g, cap, cur, hv, Nat.le_trans hb hg, r⟩)⟩
/-- Block g is just the cells cs of element type t, none of them frozen. -/
def Blk (w : World) (g : Nat) (t : TypeId) (cs : Array Value) : Prop := w.heap[g]? = some (.cells cs t (0, 0))
section
variable {g : Nat} {t : TypeId} {cs : Array Value}
theorem Blk.lt (h : Blk w g t cs) : g < w.heap.size := by
  rcases Nat.lt_or_ge g w.heap.size with hlt | hge
  · exact hlt
  · unfold Blk at h; rw [Array.getElem?_eq_none hge] at h; cases h
theorem Blk.cell (h : Blk w g t cs) (i : Nat) : w.cell? ⟨g, i, none⟩ = cs[i]? := cell_of_row w g i cs t (0, 0) h
theorem Blk.frozen (h : Blk w g t cs) (i : Nat) : w.frozen? ⟨g, i, none⟩ = false := by
  unfold Blk at h
  simp [World.frozen?, h]
theorem Blk.new (w : World) (t : TypeId) (cs : Array Value) : Blk (w.alloc (.cells cs t)) w.heap.size t cs := heap_alloc_new w _
theorem Blk.newAt (w : World) (t : TypeId) (cs : Array Value) (hg : g = w.heap.size) : Blk (w.alloc (.cells cs t)) g t cs := by subst hg; exact heap_alloc_new w _
theorem Blk.drewN (h : Blk w g t cs) (n : Nat) : Blk (w.drewN n) g t cs := h
theorem Blk.drew (h : Blk w g t cs) : Blk w.drew g t cs := h
theorem Blk.alloc (h : Blk w g t cs) (o : Obj) : Blk (w.alloc o) g t cs := (Below.heap_alloc w o g h.lt).trans h
theorem Blk.set_ (h : Blk w g t cs) (i : Nat) (u : Value) : Blk (w.setCell ⟨g, i, none⟩ u) g t (cs.setIfInBounds i u) := by
  unfold Blk at h ⊢
  simp [World.setCell, Array.getElem?_modify, h]
theorem Blk.far (h : Blk w g t cs) {p : Addr} (hp : g ≠ p.block) (u : Value) : Blk (w.setCell p u) g t cs := (Below.heap_setCell w p u g hp).trans h
theorem Blk.below {B : Nat} (h : Blk w g t cs) (hb : Below B w w') (hg : g < B) : Blk w' g t cs := (hb.block g hg).trans h
end
/-- What a call that makes a new list of ints ends in. -/
def RetOwn (e : TypeId) (xs : List Int) (w : World) (en : Ending) (w' : World) : Prop := ∃ r, en = .returned r ∧ Own w' w.heap.size e r xs ∧ Below w.heap.size w w'

theorem ret_bool {a b : Bool} (h : a = b) : Ending.returned (.bool a) = .returned (.bool b) := by rw [h]
theorem ret_int {k : IntKind} {a b : Int} (h : a = b) : Ending.returned (.int k a) = .returned (.int k b) := by rw [h]
theorem below_drewN {B : Nat} {a w : World} (h : Below B a w) (n : Nat) : Below B a (w.drewN n) := ⟨h.os, h.tape, h.output, h.size, h.block⟩
theorem below_step {N B : Nat} {w b c : World} (h : Below B b c) (hN : N ≤ B) (k : Below N w b) : Below N w c := k.trans (h.mono hN)
/-- The row that is filled: the first k places done, the rest still z. -/
theorem fill_set {α : Type} {xs : List α} {n k : Nat} {d z : α} (hn : xs.length = n) (hk : k < n) (hd : xs[k]? = some d) :
    (xs.take k ++ List.replicate (n - k) z).set k d = xs.take (k + 1) ++ List.replicate (n - (k + 1)) z := by
  have hl : (xs.take k).length = k := by rw [List.length_take]; omega
  rw [List.set_append_right _ _ (by omega), hl, Nat.sub_self, List.take_add_one, hd]
  obtain ⟨m, hm⟩ : ∃ m, n - k = m + 1 := ⟨n - k - 1, by omega⟩
  rw [hm, List.replicate_succ, List.set_cons_zero, show n - (k + 1) = m by omega]
  simp
end
end Go.Proofs.YticekjagmcphbaaGreatDoor
