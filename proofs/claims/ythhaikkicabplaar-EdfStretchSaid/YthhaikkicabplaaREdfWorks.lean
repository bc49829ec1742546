/- The small functions of the laws of layer 10: two lists are the same, an error's number, the head. No conditions. -/
import Derived.Test.YthhaikkicabplaaRXx23
import Derived.Test.YthhaikkicabplaaREdfBase
namespace Go.Proofs.YthhaikkicabplaaR.Pure
open Go Go.RowKit Tithe Go.Proofs.YthhaikkicabplaaR.X Go.Proofs.YthhaikkicabplaaRW.PrintWords Go.Proofs.YthhaikkicabplaaRW.PrintLast Go.Proofs.YthhaikkicabplaaRW.PrintMore

theorem same_evt (a b : List Int) (ha : a.length ≤ 140737488351232) : Evt (fun k => tithelaw10_same.f k a b) (decide (a = b)) := by
  unfold tithelaw10_same.f
  by_cases hl : (a.length : Int) = b.length
  · refine Evt.ifp hl ?_
    have hl' : a.length = b.length := by omega
    have key : ∀ (d i : Nat), i + d = a.length → Evt (fun k => tithelaw10_same.l0 k a b i) (decide (a.drop i = b.drop i)) := by
      intro d
      induction d with
      | zero =>
        intro i h
        refine Evt.succ ?_
        simp only [tithelaw10_same.l0]
        rw [List.drop_of_length_le (by omega), List.drop_of_length_le (by omega)]
        exact Evt.ifn (by omega) (Evt.pure fun _ => by simp)
      | succ d ih =>
        intro i h
        refine Evt.succ ?_
        simp only [tithelaw10_same.l0]
        have h1 : i < a.length := by omega
        have h2 : i < b.length := by omega
        refine Evt.ifp (by omega) (Evt.ifp (by omega) (Evt.ifp (by omega) ?_))
        rw [List.drop_eq_getElem_cons h1, List.drop_eq_getElem_cons h2, rdI h1, rdI h2]
        by_cases he : a[i] = b[i]
        · refine Evt.ifp he ?_
          rw [w64 (by omega) (by omega)]
          have := ih (i + 1) (by omega)
          rw [show ((i + 1 : Nat) : Int) = (i : Int) + 1 by omega] at this
          have hd : (a[i] :: a.drop (i + 1) = b[i] :: b.drop (i + 1)) ↔ (a.drop (i + 1) = b.drop (i + 1)) := ⟨fun h => (List.cons.inj h).2, fun h => by rw [h, he]⟩
          rw [show decide (a[i] :: a.drop (i + 1) = b[i] :: b.drop (i + 1)) = decide (a.drop (i + 1) = b.drop (i + 1)) from decide_eq_decide.2 hd]
          exact this
        · refine Evt.ifn he (Evt.pure fun _ => ?_)
          rw [decide_eq_false (fun h => he (by simpa using (List.cons.inj h).1))]
    exact key a.length 0 (by omega)
  · refine Evt.ifn hl (Evt.pure fun _ => ?_)
    rw [decide_eq_false (fun h => hl (by rw [h]))]

theorem same_true (a : List Int) (ha : a.length ≤ 140737488351232) : Evt (fun k => tithelaw10_same.f k a a) true := by
  have := same_evt a a ha
  rwa [decide_eq_true rfl] at this

theorem num_opt (e : Int) : tithelaw10_num.f (opt e) = some e := by
  unfold tithelaw10_num.f opt
  by_cases h : e = 0
  · rw [if_pos h, h]; rfl
  · rw [if_neg h]; rfl

theorem works_evt : Evt (fun k => tithelaw10_works.f k) true := by
  have h : tithelaw10_works.f 60 = some true := by decide +kernel
  exact ⟨60, fun k hk => at_rounds (tithelaw10_works.mono) hk h⟩
end Go.Proofs.YthhaikkicabplaaR.Pure
