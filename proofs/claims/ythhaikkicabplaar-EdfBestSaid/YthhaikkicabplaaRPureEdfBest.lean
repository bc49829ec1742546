/- Proved: the law EdfBest over its printed function (Dertouzos): if any plan misses nothing, edf.Plan misses nothing. No conditions. -/
import Derived.Test.YthhaikkicabplaaRDefEdfBest
import Derived.Test.YthhaikkicabplaaREdfRule
namespace Go.Proofs.YthhaikkicabplaaR.Pure
open Go Go.RowKit Tithe Go.Proofs.YthhaikkicabplaaR.X Go.Proofs.YthhaikkicabplaaRW.PrintWords Go.Proofs.YthhaikkicabplaaRW.PrintLast Go.Proofs.YthhaikkicabplaaRW.PrintMore

theorem EdfBest : tithelaw10_EdfBest.Pure := by
  intro l pl _ hl _ _ hpl _
  refine Evt.ex ?_
  have hll : l.length ≤ 140737488351232 := by omega
  have end_ : Evt (fun k => (tithelaw10_works.f k).bind fun t => some t) true := Evt.bind works_evt (Evt.pure fun _ => rfl)
  have skip : ∀ b, b = true → Evt (fun k => tithelaw10_EdfBest.j0 k l pl b) true := by
    intro b hb
    refine Evt.succ ?_
    simp only [tithelaw10_EdfBest.j0]
    exact Evt.ifp hb end_
  unfold tithelaw10_EdfBest.f
  by_cases h3 : (pl.length : Int) > 300
  · exact Evt.ifp h3 end_
  · refine Evt.ifn h3 ?_
    obtain ⟨o, e, ho, hoe⟩ := refMissed_evt l hll pl
    refine Evt.bind ho ?_
    by_cases he : e = 0
    · subst he
      refine Evt.ifp rfl (Evt.bind (some_evt o (hoe.length hll)) ?_)
      by_cases hsm : ∃ j, j < o.length ∧ rd o (j : Nat) ≠ 0
      · exact skip _ (decide_eq_true hsm)
      · rcases hoe with ⟨_, _, h⟩ | ⟨_, h1, _, h2⟩ | ⟨_, hv, _, rfl⟩
        · omega
        · omega
        · have hI := It_fine hv
          have hall := (miss_none hv pl).1 hsm
          obtain ⟨p, e, hp, hpe⟩ := Plan_evt l hll pl.length
          rcases hpe with ⟨h, _, _⟩ | ⟨_, h, _⟩ | ⟨_, _, rfl, hg⟩
          · omega
          · exact absurd hv h
          · rw [show ((pl.length : Int)).toNat = pl.length by omega] at hg
            have hall' := greedy_best hI hg (pl := rd pl) hall
            obtain ⟨o2, e2, ho2, hoe2⟩ := refMissed_evt l hll p
            have hlen := hg.1
            refine Evt.succ ?_
            simp only [tithelaw10_EdfBest.j0]
            refine Evt.ifn (by rw [decide_eq_false hsm]; simp) (Evt.bind (items_evt l hl) (Evt.bind hp (Evt.ifp rfl (Evt.succ ?_))))
            simp only [tithelaw10_EdfBest.j1]
            refine Evt.ifn (by simp [hlen]) (Evt.bind ho2 ?_)
            rcases hoe2 with ⟨h | h, _, _⟩ | ⟨_, h, _⟩ | ⟨_, _, rfl, rfl⟩
            · omega
            · exact absurd h (greedy_not_bad hg)
            · exact absurd hv h
            · refine Evt.ifp rfl (Evt.bind (some_evt _ (by simpa using hll)) (Evt.ifn ?_ end_))
              rw [decide_eq_false ((miss_none hv p).2 (by rw [hlen]; exact hall'))]; simp
    · exact Evt.ifn he (skip _ rfl)
end Go.Proofs.YthhaikkicabplaaR.Pure
