/-
  Contracts: sums, products and comparison of big ints, the inner functions of both packages. Written by an AI agent.
-/
import Derived.Test.YthbpdlmcpgegpaaBigM
import Derived.Test.YthbpdlmcpgegpaaSub
import Derived.Test.YthbpdlmcpgegpaaMul
import Derived.Test.YthbpdlmcpgegpaaCmp
import Derived.Deep.RegionHeld3
namespace Go.Proofs.Ythbpdlmcpgegpaa
open Go.RowKit

theorem bigZ_add (s : Bool) (m l : Nat) : bigZ s m + bigZ s l = bigZ s (m + l) := by cases s <;> simp [bigZ] <;> omega
theorem bigZ_sub1 (s : Bool) {m l : Nat} (h : l ≤ m) : bigZ s m + bigZ (!s) l = bigZ s (m - l) := by cases s <;> simp [bigZ] <;> omega
theorem bigZ_sub2 (s : Bool) {m l : Nat} (h : m ≤ l) : bigZ s m + bigZ (!s) l = bigZ (!s) (l - m) := by cases s <;> simp [bigZ] <;> omega
theorem bigZ_mul (s t : Bool) (m l : Nat) : bigZ s m * bigZ t l = bigZ (s != t) (m * l) := by cases s <;> cases t <;> simp [bigZ, Int.neg_mul, Int.mul_neg]
def cmpZ (x y : Int) : Int := if x < y then -1 else if y < x then 1 else 0

theorem MadeZ.wide {lo lo' : Nat} {r : Int} {w w' : World} {en : Ending} (h : MadeZ lo r w en w') (hl : lo' ≤ lo) : MadeZ lo' r w en w' := by
  obtain ⟨s, A, n, c, e, hs, o, b⟩ := h
  exact ⟨s, A, n, c, e, hs, o.rebase hl, b⟩
theorem impl_make (s : Bool) (v : Value) (m lo : Nat) (w : World) (h : Own w lo 3 v (toL m)) (_hl : lo ≤ w.heap.size) :
    Calls Try.prog 68 #[.bool s, v] w (MadeZ lo (limZ (bigZ s m)) w) := impl_bigMake s v m lo w h
theorem spec_make (s : Bool) (v : Value) (m lo : Nat) (w : World) (h : Own w lo 3 v (toL m)) (hl : lo ≤ w.heap.size) :
    Calls Try.prog 60 #[.bool s, v] w (MadeZ lo (limZ (bigZ s m)) w) := (spec_l03Make s v m w h.sl).mono fun _ _ h => h.wide hl

end Go.Proofs.Ythbpdlmcpgegpaa
