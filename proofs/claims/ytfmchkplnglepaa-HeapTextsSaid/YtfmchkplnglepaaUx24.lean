/- Proved here: what the machine does at calls of the functions that the laws reach is what plain functions of the same names say, or a row of the given statement out of that. No conditions. Written by a program of this session over the printer of the kit. -/
import Derived.Test.YtfmchkplnglepaaUx0
import Derived.Test.YtfmchkplnglepaaUx23
namespace Go.Proofs.Ytfmchkplnglepaa.U
open Go.RowKit Go.Proofs.YtfmchkplnglepaaW.PrintWords Go.Proofs.YtfmchkplnglepaaW.PrintLast Go.Proofs.YtfmchkplnglepaaW.PrintMore
attribute [local go_sem] max2_int min2_int max_two min_two max_three min_three max_four min_four   -- for this text's walks alone
set_option linter.unusedVariables false
set_option linter.unusedSimpArgs false

def cmp_Compare_string.f (a0 : ByteArray) (a1 : ByteArray) : Option Int := some (if Op.bytesLess a0.toList a1.toList = true then -1 else if a0.toList == a1.toList then 0 else 1)
theorem cmp_Compare_string.calls (a0 : ByteArray) (a1 : ByteArray) (r : Int) (w : World) (h : cmp_Compare_string.f a0 a1 = some r) :
  Calls Try.prog 42 #[.string a0, .string a1] w fun e w' => e = .returned (.int .i64 r) ∧ Drawn0 w w' := by
 obtain rfl := Option.some.inj h
 cases h1 : Op.bytesLess a0.toList a1.toList with
 | true =>
  go_enter Try.func42, Try.ntmps42
  go_wp2_with (first | (go_at_call 54; refine (cmp_isNaN_string.calls _ false _ rfl).mono ?_; rintro e w' ⟨rfl, nd, rfl⟩) | go_in)
  go_ret
  exact ⟨by first | rfl | simp [h1], by first | exact ⟨_, rfl⟩ | repeat (first | exact Drawn0.refl _ | apply Drawn0.step)⟩
 | false =>
  cases h2 : (a0.toList == a1.toList) with
  | true =>
   have hg : ∀ V : World, (binOp .gtr 9 (.string a0) (.string a1)).run Try.prog V = .ok (.bool false) V := fun V => by simp [binOp, Op.stringOp, h1, h2]
   go_enter Try.func42, Try.ntmps42
   go_wp2_with (first | (go_at_call 54; refine (cmp_isNaN_string.calls _ false _ rfl).mono ?_; rintro e w' ⟨rfl, nd, rfl⟩) | go_in)
   go_ret
   exact ⟨by first | rfl | simp [h1, h2], by first | exact ⟨_, rfl⟩ | repeat (first | exact Drawn0.refl _ | apply Drawn0.step)⟩
  | false =>
   have hg : ∀ V : World, (binOp .gtr 9 (.string a0) (.string a1)).run Try.prog V = .ok (.bool true) V := fun V => by simp [binOp, Op.stringOp, h1, h2]
   go_enter Try.func42, Try.ntmps42
   go_wp2_with (first | (go_at_call 54; refine (cmp_isNaN_string.calls _ false _ rfl).mono ?_; rintro e w' ⟨rfl, nd, rfl⟩) | go_in)
   go_ret
   exact ⟨by first | rfl | simp [h1, h2], by first | exact ⟨_, rfl⟩ | repeat (first | exact Drawn0.refl _ | apply Drawn0.step)⟩

end Go.Proofs.Ytfmchkplnglepaa.U
