/-
  The laws' own marks of lists of strings. Written by an AI agent.
-/
import Derived.Test.YticekjagmcphbaaDoorStrs
import Derived.Test.YticekjagmcphbaaDoorDec
import Derived.Test.YticekjagmcphbaaDoorBig
import Derived.Deep.RegionHeld3
namespace Go.Proofs.YticekjagmcphbaaDoor
open Go.RowKit

/-- The digits of r, none of zero. -/
def dig0 (r : Nat) : List UInt8 := if r = 0 then [] else Lib.decDigits r
/-- The last digit of n, as a byte. -/
def dByte (n : Nat) : UInt8 := UInt8.ofNat (48 + n % 10)
theorem dig0_step {r : Nat} (h : 0 < r) : dig0 r = dig0 (r / 10) ++ [dByte r] := by
  unfold dig0 dByte
  rw [if_neg (by omega)]
  rcases Nat.lt_or_ge r 10 with h1 | h1
  · rw [dec_small h1, if_pos (by omega), show r % 10 = r by omega]
    rfl
  · rw [dec_big (by omega), if_neg (by omega)]
/-- The mark of a number. -/
def mtext (k : Nat) : ByteArray := ⟨(109 :: Lib.decDigits k).toArray⟩
theorem bytes_cat (a b : List UInt8) : (⟨a.toArray⟩ : ByteArray) ++ ⟨b.toArray⟩ = ⟨(a ++ b).toArray⟩ := by
  apply ByteArray.ext
  simp

/-- A string of one byte that was just laid. -/
theorem str_of_byte (w : World) (d : Int) (h0 : 0 ≤ d) (h1 : d ≤ 255) :
    (convert 52 9 (.slice (some ⟨w.heap.size, 0, none⟩) 1 1)).run Tryd.prog (w.alloc (.cells #[.int .u8 d] 5)) = .ok (.string ⟨[UInt8.ofNat d.toNat].toArray⟩) (w.alloc (.cells #[.int .u8 d] 5)) := by
  refine run_convert_bytes_back (P := Tryd.prog) _ 52 9 5 ⟨w.heap.size, 0, none⟩ 1 [UInt8.ofNat d.toNat] Tryd.underlying52 Tryd.underlying5 Tryd.underlying9 (fun j hj => ?_)
  have hj0 : j = 0 := by simpa using hj
  subst hj0
  have hc := cell_one_new w (.int .u8 d) 5 0 (.int .u8 d) rfl
  rw [hc]
  congr 2
  show d = ((UInt8.ofNat d.toNat).toNat : Int)
  rw [UInt8.toNat_ofNat_of_lt' (by simp [UInt8.size]; omega)]
  omega
theorem byte_of (n : Nat) : UInt8.ofNat ((48 : Int) + (n : Int) % 10).toNat = dByte n := by unfold dByte; congr 1

end Go.Proofs.YticekjagmcphbaaDoor
