/- Proved here: the law's own small thing (tithelaw05.sure) answers true. No conditions. -/
import Derived.Test.YtfmchkplnglepaaHpTxI
namespace Go.Proofs.Ytfmchkplnglepaa.HpI
open Go.RowKit Go.Proofs.YtfmchkplnglepaaW.PrintWords Go.Proofs.YtfmchkplnglepaaW.PrintLast Go.Proofs.YtfmchkplnglepaaW.PrintMore
open Go Go.Proofs.Ytfmchkplnglepaa.Hp
set_option linter.unusedVariables false
set_option linter.unusedSimpArgs false
set_option maxHeartbeats 8000000 in
set_option maxRecDepth 100000 in
theorem sure5 (w : World) : Calls Try.prog 10 #[] w fun e w' => e = .returned (.bool true) ∧ Below w.heap.size w w' := by
  have huP := Try.underlying46
  have hb : Below w.heap.size w w := Below.refl _ _
  have HB := Aside0.mk hb
  clear hb
  have l1 : ins ((5 : Int), (10 : Int)) (ins (7, 30) []) = [(5, 10), (7, 30)] := by decide
  have HL := Aside0.mk l1
  clear l1
  go_enter Try.func10, Try.ntmps10
  go_wp2_with (first
    | (go_at_call 17; refine (tx_new (w := w) (by repeat (first | exact HB.out | apply pw_below_drewN))).mono ?_; rintro e w1 ⟨g, rfl, hh⟩; have HT := Aside0.mk hh; clear hh)
    | (go_at_call 18; (with_reducible refine (Tx.pushN (w := w) (g := g) (L := []) ?i1 7 30 ?i2 ?i3 ?i4).mono ?_); (case i1 => exact HT.out); (case i2 => simp); (case i3 => omega); (case i4 => simp); rintro e w2 ⟨rfl, hh⟩; have HT2 := Aside0.mk hh; clear hh)
    | (go_at_call 18; (with_reducible refine (Tx.pushN (w := w) (g := g) (L := ins (7, 30) []) ?i1 5 10 ?i2 ?i3 ?i4).mono ?_); (case i1 => exact HT2.out); (case i2 => simp [ins]); (case i3 => omega); (case i4 => simp [ins]); rintro e w3 ⟨rfl, hh⟩; rw [HL.out] at hh; have HT3 := Aside0.mk hh; clear hh)
    | (go_at_call 25; refine (Tx.min HT3.out).mono ?_; rintro e w4 ⟨rfl, hh⟩; have HT4 := Aside0.mk hh; clear hh; simp only [first3])
    | go_in)
  go_ret
  exact ⟨rfl, HT4.out.bel⟩
end Go.Proofs.Ytfmchkplnglepaa.HpI
