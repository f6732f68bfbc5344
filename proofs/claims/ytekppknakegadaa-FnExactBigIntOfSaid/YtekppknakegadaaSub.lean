/-
  Contracts: subtracting natural numbers. Written by an AI agent.
-/
import Derived.Test.YtekppknakegadaaAddF
import Derived.Test.YtekppknakegadaaCmp
namespace Go.Proofs.Ytekppknakegadaa
open Go.RowKit

/-- What holds at the head of round k of the subtraction: the limbs so far are s, b is borrowed. -/
def SubInv (m n k : Nat) (s : List Int) (b : Int) : Prop :=
  Limbs s ∧ s.length = k ∧ 0 ≤ b ∧ b ≤ 1 ∧ val s + (pw k : Int) * (((m / pw k : Nat) : Int) - ((n / pw k : Nat) : Int) - b) = (m : Int) - (n : Int)
theorem SubInv.start (m n : Nat) : SubInv m n 0 [] 0 := by
  refine ⟨Limbs.nil, rfl, by omega, by omega, ?_⟩
  simp [val, pw_zero]
theorem SubInv.borrow {m n k : Nat} {s : List Int} {b : Int} (h : SubInv m n k s b) : 0 ≤ b ∧ b ≤ 1 := ⟨h.2.2.1, h.2.2.2.1⟩
theorem SubInv.step {m n k : Nat} {s : List Int} {b da db e b' : Int} (h : SubInv m n k s b) (ha : da = ((m / pw k % 1000000000 : Nat) : Int)) (hb : db = ((n / pw k % 1000000000 : Nat) : Int))
    (he0 : 0 ≤ e) (he1 : e < 1000000000) (hb0 : 0 ≤ b') (hb1 : b' ≤ 1) (he : e - 1000000000 * b' = da - b - db) : SubInv m n (k + 1) (s ++ [e]) b' := by
  obtain ⟨h1, h2, h3, h4, h5⟩ := h
  have em := @digit_of m k
  have en := @digit_of n k
  rw [← ha] at em
  rw [← hb] at en
  refine ⟨h1.append (Limbs.cons (by omega) (by omega) Limbs.nil), by simp [h2], hb0, hb1, ?_⟩
  rw [val_snoc, h2, cast_pw_succ, Int.add_assoc, ← h5]
  congr 1
  exact place (by omega)
theorem SubInv.done {m n k : Nat} {s : List Int} {b : Int} (h : SubInv m n k s b) (hm : ¬ k < (toL m).length) (hle : n ≤ m) : Limbs s ∧ (val s).toNat = m - n := by
  obtain ⟨h1, h2, h3, h4, h5⟩ := h
  rw [digit_past hm] at h5
  have hv := val_lt h1
  rw [h2] at hv
  have hz : ((n / pw k : Nat) : Int) + b = 0 := by
    have hnn := Int.natCast_nonneg (n / pw k)
    rcases Int.lt_or_le 0 (((n / pw k : Nat) : Int) + b) with h6 | h6
    · have h7 := Int.mul_le_mul_of_nonneg_left (show 1 ≤ ((n / pw k : Nat) : Int) + b by omega) (Int.natCast_nonneg (pw k))
      have h8 : (pw k : Int) * (((0 : Nat) : Int) - ((n / pw k : Nat) : Int) - b) = - ((pw k : Int) * (((n / pw k : Nat) : Int) + b)) := by
        rw [← Int.mul_neg]
        congr 1
        omega
      rw [h8] at h5
      omega
    · omega
  refine ⟨h1, ?_⟩
  rw [show ((0 : Nat) : Int) - ((n / pw k : Nat) : Int) - b = 0 by omega, Int.mul_zero] at h5
  omega

theorem fill_snoc {α : Type} {s : List α} {n k : Nat} {z d : α} (hs : s.length = k) (hk : k < n) : (s ++ List.replicate (n - k) z).set k d = (s ++ [d]) ++ List.replicate (n - (k + 1)) z := by
  rw [List.set_append_right _ _ (by omega), hs, Nat.sub_self]
  obtain ⟨j, hj⟩ : ∃ j, n - k = j + 1 := ⟨n - k - 1, by omega⟩
  rw [hj, List.replicate_succ, List.set_cons_zero, show n - (k + 1) = j by omega]
  simp

/-- One of the call's own rows: block g, all of its n places. -/
def Row (w : World) (lo e g n : Nat) (xs : List Int) : Prop := w.ownsRow lo e 1 (.slice (some ⟨g, 0, none⟩) n n) n (xs.map (Value.int .i64))
theorem Row.own {w : World} {lo e g n : Nat} {xs : List Int} (h : Row w lo e g n xs) (hn : xs.length = n) : Own w lo e (.slice (some ⟨g, 0, none⟩) xs.length n) xs := by
  subst hn
  exact h
theorem Row.len {w : World} {lo e g n : Nat} {xs : List Int} (h : Row w lo e g n xs) : xs.length = n := by
  have := h.1
  simpa using this
theorem Row.cellAt {w : World} {lo e g n : Nat} {xs : List Int} (h : Row w lo e g n xs) {j : Nat} (hj : j < n) : ∃ u, w.cell? ⟨g, j, none⟩ = some u := by
  have hl := h.len
  rw [World.ownsRow.cellAt h j (by omega)]
  exact ⟨_, List.getElem?_eq_getElem (by simp; omega)⟩
theorem Row.cell {w : World} {lo e g n : Nat} {xs : List Int} (h : Row w lo e g n xs) {j : Nat} {d : Int} (hd : xs[j]? = some d) : w.cell? ⟨g, j, none⟩ = some (.int .i64 d) := by
  have hl := h.len
  have hj := (List.getElem?_eq_some_iff.1 hd).1
  rw [World.ownsRow.cellAt h j (by omega)]
  simp [hd]
theorem Row.frozen {w : World} {lo e g n : Nat} {xs : List Int} (h : Row w lo e g n xs) (j : Nat) : w.frozen? ⟨g, j, none⟩ = false := World.ownsRow.frozenAt h j
theorem Row.set_ {w : World} {lo e g n : Nat} {xs : List Int} (h : Row w lo e g n xs) (j : Nat) (d : Int) : Row (w.setCell ⟨g, j, none⟩ (.int .i64 d)) lo e g n (xs.set j d) := by
  have := (World.ownsRow.stored h j (.int .i64 d)).1
  rwa [← List.map_set] at this
theorem Row.below {w w' : World} {lo e g n : Nat} {xs : List Int} (h : Row w lo e g n xs) (hb : Below w.heap.size w w') : Row w' lo e g n xs := by
  have hg : w.grownBy w' none := ⟨hb.os, hb.tape, hb.output, hb.size, fun k hk _ => hb.block k hk⟩
  exact World.ownsRow.kept h hg (by simp [Value.ownBlock])
theorem Row.drewN {w : World} {lo e g n : Nat} {xs : List Int} (h : Row w lo e g n xs) (k : Nat) : Row (w.drewN k) lo e g n xs := h
theorem Row.lo {w : World} {lo e g n : Nat} {xs : List Int} (h : Row w lo e g n xs) : lo ≤ g := (World.ownsRow.lt h g rfl).1
/-- make([]int, n): the arm of a walk. -/
theorem wpList_mk {P : Program} (w : World) {ops : Array Oper} {rest : List Oper} {o : Oper} {a : Act} {Q : Exit → Act → World → Prop} (hgd : o.guard = none) (l : Operand) {t e : TypeId}
    (hop : o.op = Op.makeSlice t l l) (hP : IntP P t e) {L : Int} (n : Nat) (hl : a.eval l = .int .i64 L) (hL : L = (n : Int)) (hn : n ≤ 1099511627776)
    (hK : ∀ w', Row w' w.heap.size e w.heap.size n (List.replicate n 0) → Below w.heap.size w w' → wpList P ops Q rest (a.put o.dst (.slice (some ⟨w.heap.size, 0, none⟩) n n)) w') :
    wpList P ops Q (o :: rest) a w := by
  obtain ⟨ht, i, hi, hz, hz1, hz2⟩ := hP
  refine wpList_make_full w hgd l l t hop w.heap.size e i (.int .i64 0) 1 ht hi hz hz1 .i64 .i64 L L n hl hl hL hL (by rw [hz2]; omega) (by unfold maxLen; omega) (Nat.le_refl _) ?_
  intro w' hown hg
  refine hK w' ?_ ((Below.refl _ _).grown hg (Nat.le_refl _) (by intro k hk; cases hk))
  rw [show (Value.int .i64 0).cells = #[.int .i64 0] from rfl, toList_madeCells_one] at hown
  simpa [Row] using hown


def natSubF (xs ys : List Int) : List Int := if okB xs = true ∧ okB ys = true ∧ (val ys).toNat ≤ (val xs).toNat then toL ((val xs).toNat - (val ys).toNat) else []
theorem natSubF_toL {m n : Nat} (hm : okB (toL m) = true) (hn : okB (toL n) = true) (h : n ≤ m) : natSubF (toL m) (toL n) = toL (m - n) := by
  unfold natSubF
  rw [val_toL, val_toL, Int.toNat_natCast, Int.toNat_natCast, if_pos ⟨hm, hn, h⟩]
theorem natSubF_less {m n : Nat} (h : m < n) : natSubF (toL m) (toL n) = [] := by
  unfold natSubF
  rw [val_toL, val_toL, Int.toNat_natCast, Int.toNat_natCast, if_neg]
  rintro ⟨_, _, h3⟩
  omega
theorem natSubF_len (xs ys : List Int) : (natSubF xs ys).length ≤ 60 := by
  unfold natSubF
  split
  · rename_i h
    have h1 := (okB_iff.1 h.1)
    have h2 := val_lt h1.2.1
    have h3 := pw_le h1.1
    apply toL_len_lt
    have := val_nonneg h1.2.1
    omega
  · simp
theorem cmp_neg {m n : Nat} (h : cmpN m n < 0) : m < n := by
  unfold cmpN at h
  split at h
  · assumption
  · split at h <;> omega
theorem cmp_nonneg {m n : Nat} (h : ¬ cmpN m n < 0) : n ≤ m := by
  rcases Nat.lt_or_ge m n with h1 | h1
  · rw [cmpN_lt h1] at h
    omega
  · exact h1

end Go.Proofs.Ytekppknakegadaa
