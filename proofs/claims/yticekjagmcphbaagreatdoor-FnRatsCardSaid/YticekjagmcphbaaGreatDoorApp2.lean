/-
  Appending a whole list; copies. Written by an AI agent.
-/
import Derived.Test.YticekjagmcphbaaGreatDoorSub
namespace Go.Proofs.YticekjagmcphbaaGreatDoor
open Go.RowKit

theorem run_append_nil_any {P : Program} (w : World) (base : Nat) (t ty e : TypeId) (i : TypeInfo) (size : Nat) (ht : P.underlying t = some (.slice e)) (hi : P.info? e = some i)
    (v : Value) (n : Nat) (xs : List Value) (hown : w.ownsRow base e size v n xs) (c : Nat) : (Builtin.append_ #[t, t] ty #[v, .slice none 0 c]).run P w = .ok v w := by
  rcases hown.2 with ⟨rfl, rfl⟩ | ⟨g, cap, cur, rfl, _, _, hnc, _⟩
  · simp [Builtin.append_, run_underlying ht, sizeOf, typeInfo, hi, Builtin.lenOf, Builtin.firstCells]
  · simp [Builtin.append_, run_underlying ht, sizeOf, typeInfo, hi, Builtin.lenOf, Builtin.firstCells, hnc, storeCells]

theorem wpList_appS {P : Program} (w : World) {ops : Array Oper} {rest : List Oper} {o : Oper} {a : Act} {Q : Exit → Act → World → Prop} (hgd : o.guard = none) (s x : Operand) {t e : TypeId}
    (ho : o.op = .call { callee := .builtin .append, args := #[s, x], argTypes := #[t, t] }) (hP : IntP P t e) {base : Nat} {v sv : Value} {xs ys : List Int} (hown : Own w base e v xs) (hsl : Sl w sv ys)
    (hs : a.eval s = v) (hx : a.eval x = sv) (hlen : xs.length + ys.length ≤ 1099511627776) (hbase : base ≤ w.heap.size)
    (h : ∀ v' w', Own w' base e v' (xs ++ ys) → Below base w w' → w.grownBy w' v.ownBlock → wpList P ops Q rest (a.put o.dst v') w') :
    wpList P ops Q (o :: rest) a w := by
  obtain ⟨ht, i, hi, hz, hz1, hz2⟩ := hP
  obtain ⟨A, c, rfl, h1, h2, h3⟩ := hsl
  rcases A with _ | ad
  · have hy : ys = [] := by
      rcases Nat.eq_zero_or_pos ys.length with h0 | h0
      · exact List.eq_nil_of_length_eq_zero h0
      · obtain ⟨b, off, he, _⟩ := h3 h0
        cases he
    subst hy
    refine wpList_plain hgd fun K hK => ?_
    have hr := run_append_nil_any (P := P) w base t o.type e i 1 ht hi v xs.length (xs.map (Value.int .i64)) hown c
    unfold Oper.wp execOp
    simp only [ho, resolve, invoke, builtin, Sem.run_bind, Sem.run_pure, Result.andThen_ok, List.map_toArray, List.map_cons, List.map_nil, hs, hx, List.length_nil, hr]
    exact hK _ _ (h v w (by simpa using hown) (Below.refl _ _) (World.grownBy.refl w _))
  · refine wpList_append_own _ hgd s x t ho base e i (.int .i64 0) 1 8 ht hi hz hz1 hz2 rfl (by decide) v xs.length (xs.map (Value.int .i64)) hs hown ad ys.length c (ys.map (Value.int .i64)) hx (by simp) ?_ ?_ ?_ ?_ hbase ?_
    · intro j u hu
      rw [List.getElem?_map] at hu
      cases hj : ys[j]? with
      | none => rw [hj] at hu; cases hu
      | some d =>
        rw [hj] at hu
        cases hu
        have hjl := (List.getElem?_eq_some_iff.1 hj).1
        obtain ⟨b, off, he, hc⟩ := h3 (by omega)
        cases he
        have hadd : (⟨b, off, none⟩ : Addr).add j = ⟨b, off + j, none⟩ := by unfold Addr.add; split <;> simp_all
        rw [hadd]
        exact hc j d hj
    · intro u hu
      rw [List.mem_map] at hu
      obtain ⟨d, _, rfl⟩ := hu
      rfl
    · unfold maxLen; omega
    · omega
    · intro v' w' hown' hg _
      refine h v' w' ?_ ((Below.refl base w).grown hg hbase (fun k hk => (hown.lt k hk).1)) hg
      unfold Own
      simpa using hown'

theorem impl_copyInts (v : Value) (xs : List Int) (w : World) (h : Sl w v xs) (hl : xs.length ≤ 1048576) :
    Calls Tryz.prog 54 #[v] w (RetOwn 3 xs w) := by
  have HS := Lib.hid (h.alloc (.cells #[] 3))
  clear h
  go_enter Tryz.func54, Tryz.ntmps54
  go_wp2_with (at_builtin; refine wpList_appS _ rfl _ _ rfl Tryz.intP (own_empty w (Nat.le_refl _)) HS.out rfl rfl (by simp; omega) (by simp) ?_; intro v' w1 hown' hb' hg'; clear hg')
  go_ret
  exact ⟨v', rfl, hown', (by repeat' (first | (with_reducible exact Below.refl _ _) | (with_reducible refine Below.alloc ?_ ?_ _) | (with_reducible refine Below.setCell ?_ ?_ _) | (with_reducible refine below_drewN ?_ _) | (with_reducible refine Below.drew ?_) | (with_reducible refine below_step (by assumption) ?_ ?_) | omega | (simp; done) | (simp; omega)))⟩
end Go.Proofs.YticekjagmcphbaaGreatDoor
