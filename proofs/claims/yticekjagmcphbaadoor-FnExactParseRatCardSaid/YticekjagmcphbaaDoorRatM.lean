/-
  Making a fraction of a numerator and a denominator: ratMake and l04Low. Written by an AI agent.
-/
import Derived.Test.YticekjagmcphbaaDoorBigZF
import Derived.Test.YticekjagmcphbaaDoorDivG
import Derived.Test.YticekjagmcphbaaDoorGcdS
import Derived.Test.YticekjagmcphbaaDoorRat
namespace Go.Proofs.YticekjagmcphbaaDoor
open Go.RowKit

/-- The fraction of a sign, a numerator and a denominator: in lowest terms; (0, 0) where there is none, or where it wants more than 24 limbs. -/
def ratF (s : Bool) (m b : Nat) : Int × Nat :=
  if 0 < b ∧ m / Nat.gcd m b < pw 24 ∧ b / Nat.gcd m b < pw 24 then (bigZ s (m / Nat.gcd m b), b / Nat.gcd m b) else (0, 0)
/-- A fraction of the call's own is handed back: its numerator, its denominator. -/
def RetQ (p : Int × Nat) (w : World) (en : Ending) (w' : World) : Prop := RetRat 3 (decide (p.1 < 0)) (toL p.1.natAbs) (toL p.2) w en w'
theorem ratF_none {s : Bool} {m b : Nat} (h : ¬ (0 < b ∧ m / Nat.gcd m b < pw 24 ∧ b / Nat.gcd m b < pw 24)) : ratF s m b = (0, 0) := if_neg h
theorem ratF_some {s : Bool} {m b : Nat} (h0 : 0 < b) (h1 : m / Nat.gcd m b < pw 24) (h2 : b / Nat.gcd m b < pw 24) : ratF s m b = (bigZ s (m / Nat.gcd m b), b / Nat.gcd m b) := if_pos ⟨h0, h1, h2⟩
theorem ratF_num (s : Bool) (m b : Nat) : (ratF s m b).1.natAbs < pw 24 := by
  unfold ratF
  split
  · rename_i h
    rw [bigZ_abs]
    exact h.2.1
  · exact pw_pos 24
theorem ratF_den (s : Bool) (m b : Nat) : (ratF s m b).2 < pw 24 := by
  unfold ratF
  split
  · rename_i h
    exact h.2.2
  · exact pw_pos 24
theorem PairR.nil (w : World) (lo hi e : Nat) (h : lo ≤ hi) : PairR w lo hi e (.slice none 0 0) (.slice none 0 0) [] [] :=
  ⟨lo, lo, lo, lo, ⟨Own.nil _ _ _, fun k hk => by cases hk⟩, ⟨Own.nil _ _ _, fun k hk => by cases hk⟩, Nat.le_refl _, Nat.le_refl _, .inl (Nat.le_refl _), h, h, Nat.le_refl _, Nat.le_refl _⟩
theorem retq_zero {p : Int × Nat} {w w' : World} (h : p = (0, 0)) (b : Below w.heap.size w w') : RetQ p w (.returned (.agg #[.bool false, .slice none 0 0, .slice none 0 0])) w' := by
  subst h
  refine ⟨none, 0, 0, none, 0, 0, rfl, ?_, b⟩
  rw [show ((0 : Int), (0 : Nat)).1.natAbs = 0 from rfl, show ((0 : Int), (0 : Nat)).2 = 0 from rfl, toL_zero]
  exact PairR.nil _ _ _ _ b.size
theorem retq_made {p : Int × Nat} {s : Bool} {A B : Option Addr} {n c m d q b : Nat} {z : Int} {w w' : World} (h : p = (z, b)) (hs : s = decide (z < 0)) (hq : z.natAbs = q) (o : PairR w' w.heap.size w'.heap.size 3 (.slice A n c) (.slice B m d) (toL q) (toL b)) (hb : Below w.heap.size w w') :
    RetQ p w (.returned (.agg #[.bool s, .slice A n c, .slice B m d])) w' := by
  subst h hs hq
  exact ⟨_, _, _, _, _, _, rfl, o, hb⟩
theorem gcd_pos {m b : Nat} (h : 0 < b) : 0 < Nat.gcd m b := Nat.gcd_pos_of_pos_right m h
theorem len24 {m : Nat} : (toL m).length ≤ 24 ↔ m < pw 24 := toL_len_le
theorem len24' {m : Nat} (h : ¬ m < pw 24) : 24 < (toL m).length := by
  rcases Nat.lt_or_ge 24 (toL m).length with h1 | h1
  · exact h1
  · exact absurd (len24.1 h1) h
/-- A quotient of the call's own is handed back, and a remainder beside it. -/
def RetQuo (q : Nat) (w : World) (en : Ending) (w' : World) : Prop :=
  ∃ A n c s lo hi, en = .returned (.tuple #[.slice A n c, s]) ∧ n = (toL q).length ∧ OwnR w' lo hi 3 (.slice A n c) (toL q) ∧ w.heap.size ≤ lo ∧ lo ≤ hi ∧ hi ≤ w'.heap.size ∧ Below w.heap.size w w'
theorem RetTwo.quo {q r : Nat} {w w' : World} {en : Ending} (h : RetTwo 3 (toL q) (toL r) w en w') : RetQuo q w en w' := by
  obtain ⟨u, s, lo1, hi1, lo2, hi2, he, o, p, a, b, c, d, e, f, g, k⟩ := h
  obtain ⟨A, c', rfl, e1, e2, e3⟩ := o.1.form
  exact ⟨A, _, c', s, lo1, hi1, he, rfl, o, a, g, d, f⟩

theorem impl_quo (u v : Value) (m n q : Nat) (w : World) (hu : Sl w u (toL m)) (hv : Sl w v (toL n)) (h0 : 0 < n) (hm : m < pw 200) (hn : n < pw 150) (hq : q = m / n) :
    Calls Tryd.prog 82 #[u, v] w (RetQuo q w) := (impl_natDiv u v m n w hu hv h0 hm hn).mono fun _ _ h => hq ▸ h.quo

theorem spec_quo (u v : Value) (m n q : Nat) (w : World) (hu : Sl w u (toL m)) (hv : Sl w v (toL n)) (h0 : 0 < n) (hm : m < pw 200) (hn : n < pw 150) (hq : q = m / n) :
    Calls Tryd.prog 120 #[u, v] w (RetQuo q w) := (spec_natDiv u v m n w hu hv h0 hm hn).mono fun _ _ h => hq ▸ h.quo


end Go.Proofs.YticekjagmcphbaaDoor
