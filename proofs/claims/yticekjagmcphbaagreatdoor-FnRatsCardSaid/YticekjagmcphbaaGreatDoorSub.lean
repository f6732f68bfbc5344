/-
  Contracts: subtracting natural numbers. Written by an AI agent.
-/
import Derived.Test.YticekjagmcphbaaGreatDoorAddF
import Derived.Test.YticekjagmcphbaaGreatDoorCmp
namespace Go.Proofs.YticekjagmcphbaaGreatDoor
open Go.RowKit

/-- What holds at the head of round k of the subtraction: the limbs so far are s, b is borrowed. -/
def SubInv (m n k : Nat) (s : List Int) (b : Int) : Prop :=
  Limbs s ∧ s.length = k ∧ 0 ≤ b ∧ b ≤ 1 ∧ val s + (pw k : Int) * (((m / pw k : Nat) : Int) - ((n / pw k : Nat) : Int) - b) = (m : Int) - (n : Int)
theorem SubInv.start (m n : Nat) : SubInv m n 0 [] 0 := by
  refine ⟨Limbs.nil, rfl, by omega, by omega, ?_⟩
  simp [val, pw_zero]
theorem SubInv.borrow {m n k : Nat} {s : List Int} {b : Int} (h : SubInv m n k s b) : 0 ≤ b ∧ b ≤ 1 := ⟨h.2.2.1, h.2.2.2.1⟩
theorem SubInv.step {m n k : Nat} {s : List Int} {b da db e b' : Int} (h : SubInv m n k s b) (ha : da = ((m / pw k % 1000000000 : Nat) : Int)) (hb : db = ((n / pw k % 1000000000 : Nat) : Int))
    (he0 : 0 ≤ e) (he1 : e < 1000000000) (hb0 : 0 ≤ b') (hb1 : b' ≤ 1) (he : e - 1000000000 * b' = da - b - db) : SubInv m n (k + 1) (s ++ [e]) b' := by
  obtain ⟨h1, h2, h3, h4, h5⟩ := h
  have em := @digit_of m k
  have en := @digit_of n k
  rw [← ha] at em
  rw [← hb] at en
  refine ⟨h1.append (Limbs.cons (by omega) (by omega) Limbs.nil), by simp [h2], hb0, hb1, ?_⟩
  rw [val_snoc, h2, cast_pw_succ, Int.add_assoc, ← h5]
  congr 1
  exact place (by omega)
theorem SubInv.done {m n k : Nat} {s : List Int} {b : Int} (h : SubInv m n k s b) (hm : ¬ k < (toL m).length) (hle : n ≤ m) : Limbs s ∧ (val s).toNat = m - n := by
  obtain ⟨h1, h2, h3, h4, h5⟩ := h
  rw [digit_past hm] at h5
  have hv := val_lt h1
  rw [h2] at hv
  have hz : ((n / pw k : Nat) : Int) + b = 0 := by
    have hnn := Int.natCast_nonneg (n / pw k)
    rcases Int.lt_or_le 0 (((n / pw k : Nat) : Int) + b) with h6 | h6
    · have h7 := Int.mul_le_mul_of_nonneg_left (show 1 ≤ ((n / pw k : Nat) : Int) + b by omega) (Int.natCast_nonneg (pw k))
      have h8 : (pw k : Int) * (((0 : Nat) : Int) - ((n / pw k : Nat) : Int) - b) = - ((pw k : Int) * (((n / pw k : Nat) : Int) + b)) := by
        rw [← Int.mul_neg]
        congr 1
        omega
      rw [h8] at h5
      omega
    · omega
  refine ⟨h1, ?_⟩
  rw [show ((0 : Nat) : Int) - ((n / pw k : Nat) : Int) - b = 0 by omega, Int.mul_zero] at h5
  omega

theorem fill_snoc {α : Type} {s : List α} {n k : Nat} {z d : α} (hs : s.length = k) (hk : k < n) : (s ++ List.replicate (n - k) z).set k d = (s ++ [d]) ++ List.replicate (n - (k + 1)) z := by
  rw [List.set_append_right _ _ (by omega), hs, Nat.sub_self]
  obtain ⟨j, hj⟩ : ∃ j, n - k = j + 1 := ⟨n - k - 1, by omega⟩
  rw [hj, List.replicate_succ, List.set_cons_zero, show n - (k + 1) = j by omega]
  simp

/-- One of the call's own rows: block g, all of its n places. -/
def Row (w : World) (lo e g n : Nat) (xs : List Int) : Prop := w.ownsRow lo e 1 (.slice (some ⟨g, 0, none⟩) n n) n (xs.map (Value.int .i64))
theorem Row.own {w : World} {lo e g n : Nat} {xs : List Int} (h : Row w lo e g n xs) (hn : xs.length = n) : Own w lo e (.slice (some ⟨g, 0, none⟩) xs.length n) xs := by
  subst hn
  exact h
theorem Row.len {w : World} {lo e g n : Nat} {xs : List Int} (h : Row w lo e g n xs) : xs.length = n := by
  have := h.1
  simpa using this
theorem Row.cellAt {w : World} {lo e g n : Nat} {xs : List Int} (h : Row w lo e g n xs) {j : Nat} (hj : j < n) : ∃ u, w.cell? ⟨g, j, none⟩ = some u := by
  have hl := h.len
  rw [World.ownsRow.cellAt h j (by omega)]
  exact ⟨_, List.getElem?_eq_getElem (by simp; omega)⟩
theorem Row.cell {w : World} {lo e g n : Nat} {xs : List Int} (h : Row w lo e g n xs) {j : Nat} {d : Int} (hd : xs[j]? = some d) : w.cell? ⟨g, j, none⟩ = some (.int .i64 d) := by
  have hl := h.len
  have hj := (List.getElem?_eq_some_iff.1 hd).1
  rw [World.ownsRow.cellAt h j (by omega)]
  simp [hd]
theorem Row.frozen {w : World} {lo e g n : Nat} {xs : List Int} (h : Row w lo e g n xs) (j : Nat) : w.frozen? ⟨g, j, none⟩ = false := World.ownsRow.frozenAt h j
theorem Row.set_ {w : World} {lo e g n : Nat} {xs : List Int} (h : Row w lo e g n xs) (j : Nat) (d : Int) : Row (w.setCell ⟨g, j, none⟩ (.int .i64 d)) lo e g n (xs.set j d) := by
  have := (World.ownsRow.stored h j (.int .i64 d)).1
  rwa [← List.map_set] at this
theorem Row.below {w w' : World} {lo e g n : Nat} {xs : List Int} (h : Row w lo e g n xs) (hb : Below w.heap.size w w') : Row w' lo e g n xs := by
  have hg : w.grownBy w' none := ⟨hb.os, hb.tape, hb.output, hb.size, fun k hk _ => hb.block k hk⟩
  exact World.ownsRow.kept h hg (by simp [Value.ownBlock])
theorem Row.drewN {w : World} {lo e g n : Nat} {xs : List Int} (h : Row w lo e g n xs) (k : Nat) : Row (w.drewN k) lo e g n xs := h
theorem Row.lo {w : World} {lo e g n : Nat} {xs : List Int} (h : Row w lo e g n xs) : lo ≤ g := (World.ownsRow.lt h g rfl).1
/-- make([]int, n): the arm of a walk. -/
theorem wpList_mk {P : Program} (w : World) {ops : Array Oper} {rest : List Oper} {o : Oper} {a : Act} {Q : Exit → Act → World → Prop} (hgd : o.guard = none) (l : Operand) {t e : TypeId}
    (hop : o.op = Op.makeSlice t l l) (hP : IntP P t e) {L : Int} (n : Nat) (hl : a.eval l = .int .i64 L) (hL : L = (n : Int)) (hn : n ≤ 1099511627776)
    (hK : ∀ w', Row w' w.heap.size e w.heap.size n (List.replicate n 0) → Below w.heap.size w w' → wpList P ops Q rest (a.put o.dst (.slice (some ⟨w.heap.size, 0, none⟩) n n)) w') :
    wpList P ops Q (o :: rest) a w := by
  obtain ⟨ht, i, hi, hz, hz1, hz2⟩ := hP
  refine wpList_make_full w hgd l l t hop w.heap.size e i (.int .i64 0) 1 ht hi hz hz1 .i64 .i64 L L n hl hl hL hL (by rw [hz2]; omega) (by unfold maxLen; omega) (Nat.le_refl _) ?_
  intro w' hown hg
  refine hK w' ?_ ((Below.refl _ _).grown hg (Nat.le_refl _) (by intro k hk; cases hk))
  rw [show (Value.int .i64 0).cells = #[.int .i64 0] from rfl, toList_madeCells_one] at hown
  simpa [Row] using hown

set_option maxHeartbeats 2000000 in
theorem impl_natSub (u v : Value) (m n : Nat) (w : World) (hu : Sl w u (toL m)) (hv : Sl w v (toL n)) (hm : m < pw 200) (hle : n ≤ m) :
    Calls Tryz.prog 60 #[u, v] w (RetOwn 3 (toL (m - n)) w) := by
  obtain ⟨A, c, rfl, h1, h2, h3⟩ := hu
  obtain ⟨B, c', rfl, k1, k2, k3⟩ := hv
  have hl1 : (toL m).length ≤ 200 := toL_len_lt hm
  have hl2 : (toL n).length ≤ 200 := toL_len_lt (Nat.lt_of_le_of_lt hle hm)
  clear hm
  have HLE := Lib.hid hle
  clear hle
  have hgx := toL_at m
  have hgy := toL_at n
  have hdn := fun k s b => @SubInv.done m n k s b
  have hpy := @digit_past n
  generalize toL m = xs at *
  generalize toL n = ys at *
  have HGX := Lib.hid hgx
  have HGY := Lib.hid hgy
  have HDN : ∀ k s b, Hid (SubInv m n k s b → ¬ k < xs.length → n ≤ m → Limbs s ∧ (val s).toNat = m - n) := fun k s b => Lib.hid (hdn k s b)
  have HPY : ∀ k, Hid (¬ k < ys.length → n / pw k = 0) := fun k => Lib.hid (@hpy k)
  clear hgx hgy hdn hpy
  go_enter Tryz.func60, Tryz.ntmps60
  go_wp2_with (at_make; refine wpList_mk _ rfl _ rfl Tryz.intP xs.length rfl rfl (by omega) ?_; intro w1 hrow0 hb0)
  go_loopw [6, 14] (fun c i wr => ∃ (k : Nat) (s : List Int) (y : Int), i = .int .i64 k ∧ c = .int .i64 y ∧ k ≤ xs.length ∧ SubInv m n k s y ∧ Row wr w.heap.size 3 w.heap.size xs.length (s ++ List.replicate (xs.length - k) 0) ∧ Below w.heap.size w wr) (fun _ i _ => xs.length - (intOf i).toNat)
  case atStart => exact ⟨0, [], 0, rfl, rfl, by omega, SubInv.start m n, by simpa using hrow0, hb0⟩
  case round =>
    obtain ⟨k, s, y, rfl, rfl, hk, hinv, hrow, hb⟩ := hrel
    clear hrow0 hb0
    obtain ⟨y0, y1⟩ := hinv.borrow
    have HI := Lib.hid hinv
    clear hinv
    by_cases hx : k < xs.length
    · obtain ⟨da, hda⟩ : ∃ d : Int, d = ((m / pw k % 1000000000 : Nat) : Int) := ⟨_, rfl⟩
      obtain ⟨db, hdb⟩ : ∃ d : Int, d = ((n / pw k % 1000000000 : Nat) : Int) := ⟨_, rfl⟩
      have da0 : 0 ≤ da := by omega
      have da1 : da < 1000000000 := by omega
      have db0 : 0 ≤ db := by omega
      have db1 : db < 1000000000 := by omega
      have HDA := Lib.hid hda
      have HDB := Lib.hid hdb
      clear hda hdb
      obtain ⟨b, off, rfl, hc⟩ := h3 (by omega)
      have hcw := hc k da (by rw [HGX.out k hx, HDA.out])
      have hcell : wr.cell? ⟨b, off + k, none⟩ = some (.int .i64 da) := (hb.cell (World.block_lt_of_cell? w _ hcw)).trans hcw
      clear hc hcw h3
      obtain ⟨u, hu⟩ := hrow.cellAt hx
      have hfz := hrow.frozen k
      have HR := Lib.hid hrow
      clear hrow
      have hse : Hid (s.length = k) := Lib.hid HI.out.2.1
      by_cases hy : k < ys.length
      · obtain ⟨b', off', rfl, hc'⟩ := k3 (by omega)
        have hcw' := hc' k db (by rw [HGY.out k hy, HDB.out])
        have hcell' : wr.cell? ⟨b', off' + k, none⟩ = some (.int .i64 db) := (hb.cell (World.block_lt_of_cell? w _ hcw')).trans hcw'
        clear hc' hcw' k3
        by_cases hneg : da - y - db < 0
        · go_wp2
          go_roundw
          case rel => exact ⟨k + 1, s ++ [da - y - db + 1000000000], 1, by go_num, rfl, by omega, HI.out.step HDA.out HDB.out (by omega) (by omega) (by omega) (by omega) (by omega), by rw [← fill_snoc hse.out hx]; exact HR.out.set_ k _, hb.setCell (Nat.le_refl _) _⟩
          case measure => simp [intOf]; omega
        · go_wp2
          go_roundw
          case rel => exact ⟨k + 1, s ++ [da - y - db], 0, by go_num, rfl, by omega, HI.out.step HDA.out HDB.out (by omega) (by omega) (by omega) (by omega) (by omega), by rw [← fill_snoc hse.out hx]; exact HR.out.set_ k _, hb.setCell (Nat.le_refl _) _⟩
          case measure => simp [intOf]; omega
      · have hz : Hid (db = 0) := Lib.hid (by have := (HPY k).out hy; rw [HDB.out, this]; rfl)
        by_cases hneg : da - y < 0
        · go_wp2
          go_roundw
          case rel => exact ⟨k + 1, s ++ [da - y + 1000000000], 1, by go_num, rfl, by omega, HI.out.step HDA.out HDB.out (by omega) (by omega) (by omega) (by omega) (by have := hz.out; omega), by rw [← fill_snoc hse.out hx]; exact HR.out.set_ k _, hb.setCell (Nat.le_refl _) _⟩
          case measure => simp [intOf]; omega
        · go_wp2
          go_roundw
          case rel => exact ⟨k + 1, s ++ [da - y], 0, by go_num, rfl, by omega, HI.out.step HDA.out HDB.out (by omega) (by omega) (by omega) (by omega) (by have := hz.out; omega), by rw [← fill_snoc hse.out hx]; exact HR.out.set_ k _, hb.setCell (Nat.le_refl _) _⟩
          case measure => simp [intOf]; omega
    · have hkx : k = xs.length := by omega
      have hsx : s.length = xs.length := by rw [HI.out.2.1, hkx]
      have hro : Row wr w.heap.size 3 w.heap.size xs.length s := by
        have := hrow
        rw [hkx, Nat.sub_self] at this
        simpa using this
      have hfin := (HDN k s y).out HI.out hx HLE.out
      have HO := Lib.hid (hro.own hsx)
      have HF := Lib.hid hfin
      have HSX := Lib.hid hsx
      clear hrow hfin hro hsx hkx
      go_wp2_with fail
      refine (impl_natTrim_own _ _ _ w.heap.size s _ HSX.out (by have := HO.out; rwa [HSX.out] at this) HF.out.1).mono ?_
      rintro e w2 ⟨r2, rfl, o2, rfl⟩
      rw [HF.out.2] at o2
      go_wp2
      go_ret
      exact ⟨_, rfl, o2, hb⟩

set_option maxHeartbeats 2000000 in
theorem spec_natSub (u v : Value) (m n : Nat) (w : World) (hu : Sl w u (toL m)) (hv : Sl w v (toL n)) (hm : m < pw 200) (hle : n ≤ m) :
    Calls Tryz.prog 92 #[u, v] w (RetOwn 3 (toL (m - n)) w) := by
  obtain ⟨A, c, rfl, h1, h2, h3⟩ := hu
  obtain ⟨B, c', rfl, k1, k2, k3⟩ := hv
  have hl1 : (toL m).length ≤ 200 := toL_len_lt hm
  have hl2 : (toL n).length ≤ 200 := toL_len_lt (Nat.lt_of_le_of_lt hle hm)
  clear hm
  have HLE := Lib.hid hle
  clear hle
  have hgx := toL_at m
  have hgy := toL_at n
  have hdn := fun k s b => @SubInv.done m n k s b
  have hpy := @digit_past n
  generalize toL m = xs at *
  generalize toL n = ys at *
  have HGX := Lib.hid hgx
  have HGY := Lib.hid hgy
  have HDN : ∀ k s b, Hid (SubInv m n k s b → ¬ k < xs.length → n ≤ m → Limbs s ∧ (val s).toNat = m - n) := fun k s b => Lib.hid (hdn k s b)
  have HPY : ∀ k, Hid (¬ k < ys.length → n / pw k = 0) := fun k => Lib.hid (@hpy k)
  clear hgx hgy hdn hpy
  go_enter Tryz.func92, Tryz.ntmps92
  go_wp2
  go_loopw [5, 6, 12] (fun l c i wr => ∃ (k : Nat) (s : List Int) (y : Int), i = .int .i64 k ∧ c = .int .i64 y ∧ k ≤ xs.length ∧ SubInv m n k s y ∧ Own wr w.heap.size 3 l s ∧ Below w.heap.size w wr) (fun _ _ i _ => xs.length - (intOf i).toNat)
  case atStart => exact ⟨0, [], 0, rfl, rfl, by omega, SubInv.start m n, own_empty w (Nat.le_refl _), (by repeat' (first | (with_reducible exact Below.refl _ _) | (with_reducible refine Below.alloc ?_ ?_ _) | (with_reducible refine Below.setCell ?_ ?_ _) | (with_reducible refine below_drewN ?_ _) | (with_reducible refine Below.drew ?_) | (with_reducible refine below_step (by assumption) ?_ ?_) | omega | (simp; done) | (simp; omega)))⟩
  case round =>
    obtain ⟨k, s, y, rfl, rfl, hk, hinv, hown, hb⟩ := hrel
    obtain ⟨y0, y1⟩ := hinv.borrow
    have hsl : s.length ≤ 300 := by have := hinv.2.1; omega
    have hs := hb.size
    have HI := Lib.hid hinv
    clear hinv
    by_cases hx : k < xs.length
    · obtain ⟨da, hda⟩ : ∃ d : Int, d = ((m / pw k % 1000000000 : Nat) : Int) := ⟨_, rfl⟩
      obtain ⟨db, hdb⟩ : ∃ d : Int, d = ((n / pw k % 1000000000 : Nat) : Int) := ⟨_, rfl⟩
      have da0 : 0 ≤ da := by omega
      have da1 : da < 1000000000 := by omega
      have db0 : 0 ≤ db := by omega
      have db1 : db < 1000000000 := by omega
      have HDA := Lib.hid hda
      have HDB := Lib.hid hdb
      clear hda hdb
      obtain ⟨b, off, rfl, hc⟩ := h3 (by omega)
      have hcw := hc k da (by rw [HGX.out k hx, HDA.out])
      have hcell : wr.cell? ⟨b, off + k, none⟩ = some (.int .i64 da) := (hb.cell (World.block_lt_of_cell? w _ hcw)).trans hcw
      clear hc hcw h3
      by_cases hy : k < ys.length
      · obtain ⟨b', off', rfl, hc'⟩ := k3 (by omega)
        have hcw' := hc' k db (by rw [HGY.out k hy, HDB.out])
        have hcell' : wr.cell? ⟨b', off' + k, none⟩ = some (.int .i64 db) := (hb.cell (World.block_lt_of_cell? w _ hcw')).trans hcw'
        clear hc' hcw' k3
        by_cases hneg : da - y - db < 0
        · go_wp2_with (at_builtin; refine wpList_app1 _ rfl _ _ rfl Tryz.intP hown rfl rfl (by omega) hs ?_; intro v' w1 hown' hb' hg'; clear hown hg')
          go_roundw
          case rel => exact ⟨k + 1, s ++ [da - y - db + 1000000000], 1, by go_num, rfl, by omega, HI.out.step HDA.out HDB.out (by omega) (by omega) (by omega) (by omega) (by omega), hown', hb.trans hb'⟩
          case measure => simp [intOf]; omega
        · go_wp2_with (at_builtin; refine wpList_app1 _ rfl _ _ rfl Tryz.intP hown rfl rfl (by omega) hs ?_; intro v' w1 hown' hb' hg'; clear hown hg')
          go_roundw
          case rel => exact ⟨k + 1, s ++ [da - y - db], 0, by go_num, rfl, by omega, HI.out.step HDA.out HDB.out (by omega) (by omega) (by omega) (by omega) (by omega), hown', hb.trans hb'⟩
          case measure => simp [intOf]; omega
      · have hz : Hid (db = 0) := Lib.hid (by have := (HPY k).out hy; rw [HDB.out, this]; rfl)
        by_cases hneg : da - y < 0
        · go_wp2_with (at_builtin; refine wpList_app1 _ rfl _ _ rfl Tryz.intP hown rfl rfl (by omega) hs ?_; intro v' w1 hown' hb' hg'; clear hown hg')
          go_roundw
          case rel => exact ⟨k + 1, s ++ [da - y + 1000000000], 1, by go_num, rfl, by omega, HI.out.step HDA.out HDB.out (by omega) (by omega) (by omega) (by omega) (by have := hz.out; omega), hown', hb.trans hb'⟩
          case measure => simp [intOf]; omega
        · go_wp2_with (at_builtin; refine wpList_app1 _ rfl _ _ rfl Tryz.intP hown rfl rfl (by omega) hs ?_; intro v' w1 hown' hb' hg'; clear hown hg')
          go_roundw
          case rel => exact ⟨k + 1, s ++ [da - y], 0, by go_num, rfl, by omega, HI.out.step HDA.out HDB.out (by omega) (by omega) (by omega) (by omega) (by have := hz.out; omega), hown', hb.trans hb'⟩
          case measure => simp [intOf]; omega
    · have hfin := (HDN k s y).out HI.out hx HLE.out
      have HF := Lib.hid hfin
      have HO := Lib.hid hown
      clear hfin hown
      go_wp2_with fail
      obtain ⟨D, cd, hv, d1, d2, d3⟩ := HO.out.form
      subst hv
      refine (spec_natTrim_own _ _ _ w.heap.size s _ rfl HO.out HF.out.1).mono ?_
      rintro e w2 ⟨r2, rfl, o2, rfl⟩
      rw [HF.out.2] at o2
      go_wp2
      go_ret
      exact ⟨_, rfl, o2, hb⟩

def natSubF (xs ys : List Int) : List Int := if okB xs = true ∧ okB ys = true ∧ (val ys).toNat ≤ (val xs).toNat then toL ((val xs).toNat - (val ys).toNat) else []
theorem natSubF_toL {m n : Nat} (hm : okB (toL m) = true) (hn : okB (toL n) = true) (h : n ≤ m) : natSubF (toL m) (toL n) = toL (m - n) := by
  unfold natSubF
  rw [val_toL, val_toL, Int.toNat_natCast, Int.toNat_natCast, if_pos ⟨hm, hn, h⟩]
theorem natSubF_less {m n : Nat} (h : m < n) : natSubF (toL m) (toL n) = [] := by
  unfold natSubF
  rw [val_toL, val_toL, Int.toNat_natCast, Int.toNat_natCast, if_neg]
  rintro ⟨_, _, h3⟩
  omega
theorem natSubF_len (xs ys : List Int) : (natSubF xs ys).length ≤ 60 := by
  unfold natSubF
  split
  · rename_i h
    have h1 := (okB_iff.1 h.1)
    have h2 := val_lt h1.2.1
    have h3 := pw_le h1.1
    apply toL_len_lt
    have := val_nonneg h1.2.1
    omega
  · simp
theorem cmp_neg {m n : Nat} (h : cmpN m n < 0) : m < n := by
  unfold cmpN at h
  split at h
  · assumption
  · split at h <;> omega
theorem cmp_nonneg {m n : Nat} (h : ¬ cmpN m n < 0) : n ≤ m := by
  rcases Nat.lt_or_ge m n with h1 | h1
  · rw [cmpN_lt h1] at h
    omega
  · exact h1

end Go.Proofs.YticekjagmcphbaaGreatDoor
