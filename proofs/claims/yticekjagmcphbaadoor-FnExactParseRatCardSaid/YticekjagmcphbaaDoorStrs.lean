/-
  Lists of strings: words, appending, and the laws' own helpers: copy, compare, mark, size. Written by an AI agent.
-/
import Derived.Test.YticekjagmcphbaaDoorOwn2
import Derived.Test.YticekjagmcphbaaDoorTrim
namespace Go.Proofs.YticekjagmcphbaaDoor
open Go.RowKit

/-- The slice value v reads, in the world w, as the list of strings xs. -/
def SlS (w : World) (v : Value) (xs : List ByteArray) : Prop :=
  ∃ A c, v = .slice A xs.length c ∧ xs.length ≤ c ∧ c ≤ maxLen ∧
    (0 < xs.length → ∃ b off, A = some ⟨b, off, none⟩ ∧ ∀ i d, xs[i]? = some d → w.cell? ⟨b, off + i, none⟩ = some (.string d))

/-- The slice value v is the call's own row (a block from 'base' on) of the strings xs. -/
def OwnS (w : World) (base : Nat) (e : TypeId) (v : Value) (xs : List ByteArray) : Prop := w.ownsRow base e 1 v xs.length (xs.map (Value.string))

section
variable {w w' : World} {v : Value} {xs : List ByteArray} {base e : Nat}

theorem SlS.keep (h : SlS w v xs) (hk : ∀ p : Addr, (∃ u, w.cell? p = some u) → w'.cell? p = w.cell? p) : SlS w' v xs := by
  obtain ⟨A, c, rfl, h1, h2, h3⟩ := h
  refine ⟨A, c, rfl, h1, h2, fun hn => ?_⟩
  obtain ⟨b, off, rfl, hc⟩ := h3 hn
  exact ⟨b, off, rfl, fun i d hd => (hk _ ⟨_, hc i d hd⟩).trans (hc i d hd)⟩
theorem SlS.below (h : SlS w v xs) (hb : Below w.heap.size w w') : SlS w' v xs :=
  h.keep fun p ⟨_, hu⟩ => hb.cell (World.block_lt_of_cell? w p hu)
theorem SlS.alloc (h : SlS w v xs) (o : Obj) : SlS (w.alloc o) v xs := h.below ((Below.refl _ _).alloc (Nat.le_refl _) o)
theorem SlS.drew (h : SlS w v xs) : SlS w.drew v xs := h
theorem SlS.drewN (h : SlS w v xs) (n : Nat) : SlS (w.drewN n) v xs := h
theorem SlS.grown {row : Option Nat} (h : SlS w v xs) (hg : w.grownBy w' row) (hne : ∀ b, v.ownBlock = some b → row ≠ some b) : SlS w' v xs := by
  obtain ⟨A, c, rfl, h1, h2, h3⟩ := h
  refine ⟨A, c, rfl, h1, h2, fun hn => ?_⟩
  obtain ⟨b, off, rfl, hc⟩ := h3 hn
  refine ⟨b, off, rfl, fun i d hd => hg.cell (hc i d hd) (fun e => hne b rfl e.symm)⟩
theorem OwnS.sl (h : OwnS w base e v xs) : SlS w v xs := by
  have hc := @World.ownsRow.cells w base e 1 v xs.length _ h
  rcases h.2 with ⟨rfl, h0⟩ | ⟨g, cap, cur, rfl, _, _, hn, hm, _⟩
  · rw [← h0]
    exact ⟨none, 0, by rw [← h0], by omega, by simp [maxLen], fun h => by omega⟩
  · refine ⟨_, _, rfl, hn, hm, fun _ => ⟨g, 0, rfl, fun i d hd => ?_⟩⟩
    have := hc (g := g) rfl i (.string d) (by simp [hd])
    have hadd : (⟨g, 0, none⟩ : Addr).add i = ⟨g, 0 + i, none⟩ := by unfold Addr.add; split <;> simp_all
    rwa [hadd] at this
theorem OwnS.below (h : OwnS w base e v xs) (hb : Below w.heap.size w w') : OwnS w' base e v xs := by
  have hg : w.grownBy w' none := ⟨hb.os, hb.tape, hb.output, hb.size, fun k hk _ => hb.block k hk⟩
  exact World.ownsRow.kept h hg (by cases hv : v.ownBlock <;> simp)
theorem OwnS.alloc (h : OwnS w base e v xs) (o : Obj) : OwnS (w.alloc o) base e v xs := World.ownsRow.alloc h o
theorem OwnS.grown {row : Option Nat} (h : OwnS w base e v xs) (hg : w.grownBy w' row) (hne : ∀ b, v.ownBlock = some b → row ≠ some b) : OwnS w' base e v xs :=
  World.ownsRow.kept h hg (by
    cases hv : v.ownBlock with
    | none => exact .inl rfl
    | some b => exact .inr (fun e => hne b hv e.symm))
theorem OwnS.nil (w : World) (base e : Nat) : OwnS w base e (.slice none 0 0) [] := World.ownsRow_nil _ _ _ _
theorem OwnS.lt (h : OwnS w base e v xs) : ∀ k, v.ownBlock = some k → base ≤ k ∧ k < w.heap.size := World.ownsRow.lt h
theorem OwnS.rebase {base' : Nat} (h : OwnS w base e v xs) (hb : base' ≤ base) : OwnS w base' e v xs :=
  ⟨h.1, h.2.elim Or.inl (fun ⟨g, cap, cur, hv, hg, r⟩ => Or.inr ⟨g, cap, cur, hv, Nat.le_trans hb hg, r⟩)⟩
end
/-- What a call that makes a new list of strings ends in. -/
def RetOwnS (e : TypeId) (xs : List ByteArray) (w : World) (en : Ending) (w' : World) : Prop := ∃ r, en = .returned r ∧ OwnS w' w.heap.size e r xs ∧ Below w.heap.size w w'

theorem Tryd.infoStr : (Tryd.prog.info? 9).map (fun i => (i.zero, i.size, i.bytes)) = some (some (.string ByteArray.empty), 1, 16) := by kernel_rfl

/-- The type t is a slice of the type e, and e is a string. -/
def StrP (P : Program) (t e : TypeId) : Prop := P.underlying t = some (.slice e) ∧ ∃ i, P.info? e = some i ∧ i.zero = some (.string ByteArray.empty) ∧ i.size = 1 ∧ i.bytes = 16
theorem Tryd.strP : StrP Tryd.prog 56 9 := by
  obtain ⟨i0, hi, hz0, hz1, hz2⟩ := info_parts Tryd.infoStr
  exact ⟨Tryd.underlying56, i0, hi, hz0, hz1, hz2⟩

theorem own_emptyS (w : World) {base e : Nat} (hb : base ≤ w.heap.size) : OwnS (w.alloc (.cells #[] e)) base e (.slice (some ⟨w.heap.size, 0, none⟩) 0 0) [] :=
  World.ownsRow_lit w #[] 0 hb (by simp [maxLen]) (by simp)
theorem own_oneS (w : World) {base e : Nat} (d : ByteArray) (hb : base ≤ w.heap.size) : OwnS (w.alloc (.cells #[.string d] e)) base e (.slice (some ⟨w.heap.size, 0, none⟩) 1 1) [d] :=
  World.ownsRow_lit w #[.string d] 1 hb (by simp [maxLen]) (by simp)

theorem OwnS.form {w : World} {base e : Nat} {v : Value} {xs : List ByteArray} (h : OwnS w base e v xs) :
    ∃ A c, v = .slice A xs.length c ∧ xs.length ≤ c ∧ c ≤ maxLen ∧ (0 < xs.length → ∃ g, A = some ⟨g, 0, none⟩ ∧ base ≤ g ∧ g < w.heap.size) := by
  rcases h.2 with ⟨rfl, h0⟩ | ⟨g, cap, cur, rfl, hb, hh, hn, hm, _⟩
  · exact ⟨none, 0, by rw [h0], by omega, by simp [maxLen], fun h => by omega⟩
  · exact ⟨_, cap, rfl, hn, hm, fun _ => ⟨g, rfl, hb, (Array.getElem?_eq_some_iff.1 hh).1⟩⟩

theorem wpList_app1S {P : Program} (w : World) {ops : Array Oper} {rest : List Oper} {o : Oper} {a : Act} {Q : Exit → Act → World → Prop} (hgd : o.guard = none) (s x : Operand) {t e : TypeId}
    (ho : o.op = .call { callee := .builtin .append, args := #[s, x], argTypes := #[t, t] }) (hP : StrP P t e) {base : Nat} {v : Value} {xs : List ByteArray} {d : ByteArray} (hown : OwnS w base e v xs)
    (hs : a.eval s = v) (hx : a.eval x = .slice (some ⟨w.heap.size, 0, none⟩) 1 1) (hlen : xs.length ≤ 1099511627776) (hbase : base ≤ w.heap.size)
    (h : ∀ v' w', OwnS w' base e v' (xs ++ [d]) → Below base w w' → w.grownBy w' v.ownBlock → wpList P ops Q rest (a.put o.dst v') w') :
    wpList P ops Q (o :: rest) a (w.alloc (.cells #[.string d] e)) := by
  obtain ⟨ht, i, hi, hz, hz1, hz2⟩ := hP
  refine wpList_append_own _ hgd s x t ho base e i (.string ByteArray.empty) 1 16 ht hi hz hz1 hz2 rfl (by decide) v xs.length (xs.map (Value.string)) hs (hown.alloc _) ⟨w.heap.size, 0, none⟩ 1 1 [.string d] hx rfl ?_ ?_ ?_ ?_ ?_ ?_
  · exact cell_one_new _ _ _
  · intro u hu
    simp at hu
    subst hu
    rfl
  · unfold maxLen; omega
  · omega
  · simp; omega
  · intro v' w' hown' hg _
    have hg2 : w.grownBy w' v.ownBlock := by
      have h1 := World.grownBy_alloc w (.cells #[.string d] e) v.ownBlock
      exact ⟨hg.os.trans h1.os, hg.tape.trans h1.tape, hg.output.trans h1.output, Nat.le_trans h1.size hg.size, fun k hk hne => (hg.block k (Nat.lt_of_lt_of_le hk h1.size) hne).trans (h1.block k hk hne)⟩
    refine h v' w' ?_ ?_ hg2
    · unfold OwnS
      simpa using hown'
    · exact (Below.refl base w).grown hg2 hbase (fun k hk => (hown.lt k hk).1)

/-- A shorter view of an own row. -/
theorem OwnS.cut {w : World} {base e c j : Nat} {A : Option Addr} {xs : List ByteArray} (h : OwnS w base e (.slice A xs.length c) xs) (hj : j ≤ xs.length) : OwnS w base e (.slice A j c) (xs.take j) := by
  have hl : (xs.take j).length = j := by rw [List.length_take]; omega
  unfold OwnS at h ⊢
  rw [hl]
  refine ⟨by simp; omega, ?_⟩
  rcases h.2 with ⟨hv, h0⟩ | ⟨g, cap, cur, hv, hg, hh, hn, hm, hs, ht⟩
  · left
    simp only [Value.slice.injEq] at hv
    obtain ⟨rfl, h1, rfl⟩ := hv
    have : j = 0 := by omega
    subst this
    exact ⟨rfl, rfl⟩
  · right
    simp only [Value.slice.injEq] at hv
    obtain ⟨rfl, _, rfl⟩ := hv
    refine ⟨g, c, cur, rfl, hg, hh, by omega, hm, hs, ?_⟩
    have h2 := congrArg (List.take (j * 1)) ht
    rw [List.take_take, ← List.map_take] at h2
    rw [show min (j * 1) (xs.length * 1) = j * 1 by omega, Nat.mul_one] at h2
    rw [Nat.mul_one, h2]
theorem SlS.cut {w : World} {c j : Nat} {A : Option Addr} {xs : List ByteArray} (h : SlS w (.slice A xs.length c) xs) (hj : j ≤ xs.length) : SlS w (.slice A j c) (xs.take j) := by
  obtain ⟨A', c', hv, h1, h2, h3⟩ := h
  simp only [Value.slice.injEq, true_and] at hv
  obtain ⟨rfl, rfl⟩ := hv
  have hl : (xs.take j).length = j := by rw [List.length_take]; omega
  refine ⟨A, c, by rw [hl], by omega, h2, fun hp => ?_⟩
  obtain ⟨b, off, rfl, hc⟩ := h3 (by omega)
  refine ⟨b, off, rfl, fun i d hd => hc i d ?_⟩
  rw [List.getElem?_take] at hd
  split at hd
  · exact hd
  · cases hd

/-- How the machine holds two strings against each other. -/
theorem str_eq {a b : ByteArray} (h : a = b) : (a.toList == b.toList) = true := by rw [h]; simp
theorem str_ne {a b : ByteArray} (h : ¬ a = b) : (a.toList == b.toList) = false := by
  rw [beq_eq_false_iff_ne]
  intro h1
  rw [ByteArray.toList_eq, ByteArray.toList_eq] at h1
  exact h (ByteArray.ext (Array.toList_inj.1 h1))
theorem list_neS {xs ys : List ByteArray} {k : Nat} {d f : ByteArray} (hd : xs[k]? = some d) (hf : ys[k]? = some f) (h : d ≠ f) : xs ≠ ys := by
  rintro rfl
  rw [hd] at hf
  exact h (Option.some.inj hf)
/-- The slice value v is a row of the call's own, of the strings xs, in a block from lo up to hi. -/
def OwnRS (w : World) (lo hi e : Nat) (v : Value) (xs : List ByteArray) : Prop := OwnS w lo e v xs ∧ ∀ k, v.ownBlock = some k → k < hi
section
variable {w w' : World} {v : Value} {xs : List ByteArray} {lo hi lo' hi' e : Nat}
theorem OwnRS.of (h : OwnS w lo e v xs) : OwnRS w lo w.heap.size e v xs := ⟨h, fun k hk => (h.lt k hk).2⟩
theorem OwnRS.sl (h : OwnRS w lo hi e v xs) : SlS w v xs := h.1.sl
theorem OwnRS.below (h : OwnRS w lo hi e v xs) {B : Nat} (hb : Below B w w') (hB : hi ≤ B) : OwnRS w' lo hi e v xs := by
  refine ⟨?_, h.2⟩
  refine ⟨h.1.1, ?_⟩
  rcases h.1.2 with hn | ⟨g, cap, cur, rfl, hbg, hh, r⟩
  · exact .inl hn
  · have hg := h.2 g rfl
    exact .inr ⟨g, cap, cur, rfl, hbg, by rw [hb.block g (by omega)]; exact hh, r⟩
theorem OwnRS.only (h : OwnRS w lo hi e v xs) (ho : Only lo' hi' w w') (hd : hi ≤ lo' ∨ hi' ≤ lo) : OwnRS w' lo hi e v xs := by
  refine ⟨?_, h.2⟩
  refine ⟨h.1.1, ?_⟩
  rcases h.1.2 with hn | ⟨g, cap, cur, rfl, hbg, hh, r⟩
  · exact .inl hn
  · have hg := h.2 g rfl
    exact .inr ⟨g, cap, cur, rfl, hbg, by rw [ho.block g (Array.getElem?_eq_some_iff.1 hh).1 (by omega)]; exact hh, r⟩
theorem OwnRS.use (h : OwnRS w lo hi e v xs) (hb : Below hi w w') : SlS w' v xs := (h.below hb (Nat.le_refl _)).sl
theorem OwnRS.here (h : OwnRS w lo hi e v xs) (hb : Below hi w w') : OwnRS w' lo hi e v xs := h.below hb (Nat.le_refl _)
theorem OwnRS.across {w'' : World} (h : OwnRS w lo hi e v xs) (hb : Below hi w w') (ho : Only lo' hi' w' w'') (hd : hi ≤ lo' ∨ hi' ≤ lo) : OwnRS w'' lo hi e v xs := (h.below hb (Nat.le_refl _)).only ho hd
theorem Only.of_grownS (h : OwnRS w lo hi e v xs) (hg : w.grownBy w' v.ownBlock) : Only lo hi w w' :=
  ⟨hg.os, hg.tape, hg.output, hg.size, fun k hk ho => hg.block k hk (fun he => by
    have h1 := (h.1.lt k he.symm).1
    have h2 := h.2 k he.symm
    omega)⟩
end
end Go.Proofs.YticekjagmcphbaaDoor
