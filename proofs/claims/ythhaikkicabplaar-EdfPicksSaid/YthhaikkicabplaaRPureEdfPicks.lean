/- EdfPicks in plain Lean: who is picked, and the order, are the reference's. No conditions beyond the statement's. -/
import Derived.Test.YthhaikkicabplaaREdfRefOrd
import Derived.Test.YthhaikkicabplaaRDefEdfPicks
namespace Go.Proofs.YthhaikkicabplaaR.Pure
open Go Go.RowKit Tithe Tithe.Sym Go.Proofs.YthhaikkicabplaaR.P Go.Proofs.YthhaikkicabplaaRW.PrintWords Go.Proofs.YthhaikkicabplaaRW.PrintLast Go.Proofs.YthhaikkicabplaaRW.PrintMore

theorem pick_same (l : List S60) (hl : l.length ≤ 140737488351232) : ∃ r, Evt (fun k => edf_Pick.f k (l.map cw)) r ∧ Evt (fun k => titheref10_Pick.f k l) r := by
  obtain ⟨r, h1, h2⟩ := Pick_evt (l.map cw) (by rw [List.length_map]; exact hl)
  obtain ⟨r', h3, h4⟩ := refPick_evt l hl
  have e : r = r' := by
    rw [List.length_map] at h2
    refine PickIs.uniq (h2.congr ?_) h4
    intro j hj
    rw [rdc hj]
    exact ⟨rfl, rfl, fun _ => rfl⟩
  subst e
  exact ⟨r, h1, h3⟩
theorem picks_l1 (l : List S60) (hl : l.length ≤ 5864062014634) : ∀ (d i : Nat), i + d = l.length → Evt (fun k => tithelaw10_EdfPicks.l1 k l (l.map cw) true (i : Int)) true := by
  intro d
  induction d with
  | zero =>
    intro i hi
    refine Evt.succ ?_
    simp only [tithelaw10_EdfPicks.l1]
    exact Evt.ifn (by omega) (Evt.ifp (by trivial) (Evt.bind works_evt (Evt.pure fun _ => rfl)))
  | succ d ih =>
    intro i hi
    have hil : i < l.length := by omega
    refine Evt.succ ?_
    simp only [tithelaw10_EdfPicks.l1]
    rw [w1 i (by omega), rdc hil]
    exact Evt.ifp (by omega) (Evt.ifp (by omega) (Evt.ifp (by rw [List.length_map]; omega) (Evt.ifn (by simp [cw]) (ih (i + 1) (by omega)))))
theorem picks_l0 (l : List S60) (hl : l.length ≤ 5864062014634) : ∀ (d i : Nat), i + d = l.length → Evt (fun k => tithelaw10_EdfPicks.l0 k l ((l.take i).map cw) (i : Int)) true := by
  intro d
  induction d with
  | zero =>
    intro i hi
    refine Evt.succ ?_
    simp only [tithelaw10_EdfPicks.l0]
    rw [List.take_of_length_le (by omega)]
    obtain ⟨r, h1, h2⟩ := pick_same l (by omega)
    have ho : edf_Order.f (l.map cw) = some ((ordl (l.map cw)).map fun x : Nat => (x : Int)) := by
      unfold edf_Order.f
      rw [if_pos (by rw [List.length_map]; omega)]
    have hsl : ((ordl (l.map cw)).map fun x : Nat => (x : Int)).length ≤ 140737488351232 := by
      rw [List.length_map, ordl_len]
      have := plc_len (l.map cw) (l.map cw).length
      rw [List.length_map] at this ⊢
      omega
    refine Evt.ifn (by omega) (Evt.bind h1 (Evt.bind h2 (Evt.ifp rfl (Evt.call ho (Evt.bind (refOrder_evt l hl) (Evt.bind (same_true _ hsl) ?_))))))
    refine Evt.succ ?_
    simp only [tithelaw10_EdfPicks.j1]
    exact picks_l1 l hl l.length 0 (by omega)
  | succ d ih =>
    intro i hi
    have hil : i < l.length := by omega
    refine Evt.succ ?_
    simp only [tithelaw10_EdfPicks.l0]
    rw [w1 i (by omega)]
    have e : (l.take i).map cw ++ [(⟨(rd_T60 l (i : Int)).f0, (rd_T60 l (i : Int)).f1, (rd_T60 l (i : Int)).f2⟩ : S59)] = (l.take (i + 1)).map cw := by
      rw [List.take_succ_eq_append_getElem hil, List.map_append, rd60 hil]
      rfl
    rw [e]
    exact Evt.ifp (by omega) (Evt.ifp (by omega) (Evt.ifp (by rw [List.length_map, List.length_take]; omega) (ih (i + 1) (by omega))))
theorem EdfPicks : tithelaw10_EdfPicks.Pure := by
  unfold tithelaw10_EdfPicks.Pure
  intro l _ h24 _
  have hl : l.length ≤ 5864062014634 := by omega
  unfold tithelaw10_EdfPicks.f
  have := picks_l0 l hl l.length 0 (by omega)
  exact this.ex
end Go.Proofs.YthhaikkicabplaaR.Pure
