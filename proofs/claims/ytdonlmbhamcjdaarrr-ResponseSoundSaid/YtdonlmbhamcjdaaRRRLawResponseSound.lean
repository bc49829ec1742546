/- Proved here: the law ResponseSound returns true at every input, as the given statement says. No conditions. -/
import Derived.Test.YtdonlmbhamcjdaaRRRRows
import Derived.Test.YtdonlmbhamcjdaaRRRSndP
import Derived.Test.YtdonlmbhamcjdaaRRROpen
import Derived.WalkKit
import Derived.ProofKit
import Derived.OpenShut
import Derived.ChangeOld
import Derived.Below
import Derived.SizedLaws
namespace Go.Proofs.YtdonlmbhamcjdaaRRR.J
open Go.RowKit Go.Proofs.YtdonlmbhamcjdaaRRRW.PrintWords Go.Proofs.YtdonlmbhamcjdaaRRRW.PrintLast Go.Proofs.YtdonlmbhamcjdaaRRRW.PrintMore
namespace OfResponseSound
theorem O43 : Opens Try.prog k43 43 (fun x => (Lit.int .i64 x.f0).wf = true ∧ (Lit.int .i64 x.f1).wf = true ∧ (Lit.int .i64 x.f2).wf = true ∧ (Lit.int .i64 x.f3).wf = true) :=
  Opens.struct4 (proj := fun x : S43 => (x.f0, x.f1, x.f2, x.f3)) (fun a b c d => (⟨a, b, c, d⟩ : S43)) (fun _ _ _ _ => rfl) Try.underlying43 (Opens.int Try.underlying3) (Opens.int Try.underlying3) (Opens.int Try.underlying3) (Opens.int Try.underlying3) (by kernel_rfl) (by kernel_rfl) (by kernel_rfl) (by kernel_rfl) (by kernel_rfl) (by kernel_rfl) (by kernel_rfl) (by kernel_rfl) (by kernel_rfl)
theorem O64 : Opens Try.prog k64 64 (fun x => (Lit.int .i64 x.f0).wf = true ∧ (Lit.int .i64 x.f1).wf = true) :=
  Opens.struct2 (proj := fun x : S64 => (x.f0, x.f1)) (fun a b => (⟨a, b⟩ : S64)) (fun _ _ => rfl) Try.underlying64 (Opens.int Try.underlying3) (Opens.int Try.underlying3) (by kernel_rfl) (by kernel_rfl) (by kernel_rfl) (by kernel_rfl) (by kernel_rfl)
/-- a reservation and where its ticks lie -/
def k66 : Kd (S64 × List Int × Int) := Kd.iso (Kd.pair k64 (Kd.pair (Kd.slice 3 (Kd.int .i64)) (Kd.int .i64))) (fun x : S64 × List Int × Int => (x.1, x.2.1, x.2.2))
theorem k66_open {w : World} {x : S64 × List Int × Int} {cs : List Value} (h : k66.K w x cs) : ∃ A c, cs = [.int .i64 x.1.f0, .int .i64 x.1.f1, .slice A x.2.1.length c, .int .i64 x.2.2] ∧ x.2.1.length ≤ c ∧ Kd.C (Kd.int .i64) w A x.2.1.length x.2.1 := by
  obtain ⟨ca, cb, rfl, h0, cc, cd, rfl, h1, h2⟩ := h
  obtain rfl := k64_open h0
  obtain ⟨A, c, rfl, h3, h4⟩ := h1
  obtain rfl : cd = [.int .i64 x.2.2] := h2
  exact ⟨A, c, rfl, h3, h4⟩
theorem O66 : Opens Try.prog k66 66 (fun x => ((Lit.int .i64 x.1.f0).wf = true ∧ (Lit.int .i64 x.1.f1).wf = true) ∧ ((∀ v ∈ x.2.1, (Lit.int .i64 v).wf = true) ∧ x.2.1.length ≤ maxLen) ∧ (Lit.int .i64 x.2.2).wf = true) :=
  Opens.struct3 (proj := fun x : S64 × List Int × Int => (x.1, x.2.1, x.2.2)) (fun a b c => (a, b, c)) (fun _ _ _ => rfl) Try.underlying66 O64 (Opens.slice Try.underlying23 (by kernel_rfl) (Opens.int Try.underlying3)) (Opens.int Try.underlying3) (by kernel_rfl) (by kernel_rfl) (by kernel_rfl) (by kernel_rfl) (by kernel_rfl) (by kernel_rfl) (by kernel_rfl)
end OfResponseSound
end Go.Proofs.YtdonlmbhamcjdaaRRR.J
namespace Go.Proofs.YtdonlmbhamcjdaaRRR.responseSound
open Go.ChangeShapes Go.WideShapes Go.ChangeAt Go.RowKit Go.Proofs.YtdonlmbhamcjdaaRRRW.PrintWords
set_option linter.unusedVariables false
theorem own : ownKnob Try.prog.godebug = none := by kernel_rfl
theorem laidOut : laidOutB Try.prog = true := by kernel_rfl
set_option maxRecDepth 100000 in
theorem lifted (os : Os) (started : os.Started) (H : Type) (enc : TypeId × Value → H) :
    ReturnsInHanded {} Try.checked os 10 .any (Rows.responseSoundSpec.pre6 enc Try.prog Try.f10 Rows.responseSoundRow.domain false) (Rows.responseSoundSpec.post enc Try.prog Try.f10 false true false false) := by
  refine returnsInHanded_of_change_sized (C := Try.checked) own started (by kernel_rfl) Try.func10
    (ChangeSpec.witness6 (enc := enc) (C := Try.checked) false ⟨#[], #[.slice none 0 0, .slice none 0 0, .agg #[.int .i64 0, .int .i64 0, .slice none 0 0, .int .i64 0]], []⟩ 8 (by kernel_rfl) (by kernel_rfl) (by kernel_rfl) (by kernel_rfl)) ?_
  intro W base args ds gs before hval0 hW hcnd hsz0 _
  have hsz : (DataW.weightsEach Try.prog (Try.f10.params.toList ++ Rows.responseSoundSpec.plain.varTypes Try.prog) (ds ++ gs)).all (· ≤ reachBytes) = true := hsz0
  have hval : ∀ (j : Nat) t v, Try.f10.params[j]? = some t → args[j]? = some v → Value.okWide Try.prog W .any base t v := hval0
  have hW' := hW
  obtain ⟨p, q, hA0, hV, rfl, hfz, hnd⟩ := hW
  have hA : DataW.TrodAll enc Try.prog W 0 (fun _ => true) true Try.f10.params.toList args.toList ds p := hA0
  rw [Try.params10] at hA hval hsz
  obtain ⟨v0, vs0, d0, ds0, p0, q0, hargs, rfl, rfl, h0, r0⟩ := trodAll_cons hA
  obtain ⟨v1, vs1, d1, ds1, p1, q1, rfl, rfl, rfl, h1, r1⟩ := trodAll_cons r0
  obtain ⟨v2, vs2, d2, ds2, p2, q2, rfl, rfl, rfl, h2, r2⟩ := trodAll_cons r1
  obtain ⟨rfl, rfl, rfl⟩ := trodAll_nil r2
  obtain rfl : args = #[v0, v1, v2] := by cases args; simp_all
  obtain ⟨rfl, rfl⟩ := trodVars_none hV
  obtain ⟨a0, len0, cap0, rfl⟩ := okWide_slice Try.underlying22 (hval 0 22 v0 rfl rfl)
  have k0 := h0
  have lt0 : ∀ x ∈ p0, x.block < W.heap.size := by obtain ⟨m, hm⟩ := k0; exact DataW.trod_lt m _ _ _ hm
  obtain ⟨l0, rfl, hc0, hr0, hw0, hm0, y0⟩ := open_row hsz (j := 0) (t := 22) (B := 32) rfl rfl Try.underlying22 (by kernel_rfl) (by kernel_rfl) Go.Proofs.YtdonlmbhamcjdaaRRR.J.OfResponseSound.O43 h0
  obtain ⟨a1, len1, cap1, rfl⟩ := okWide_slice Try.underlying23 (hval 1 23 v1 rfl rfl)
  have k1 := h1
  have lt1 : ∀ x ∈ p1, x.block < W.heap.size := by obtain ⟨m, hm⟩ := k1; exact DataW.trod_lt m _ _ _ hm
  obtain ⟨l1, rfl, hc1, hr1, hw1, hm1, y1⟩ := open_row hsz (j := 1) (t := 23) (B := 8) rfl rfl Try.underlying23 (by kernel_rfl) (by kernel_rfl) (Opens.int Try.underlying3) h1
  obtain ⟨cs2, rfl, _⟩ := okWide_struct Try.underlying66 (hval 2 66 v2 rfl rfl)
  have k2 := h2
  have lt2 : ∀ x ∈ p2, x.block < W.heap.size := by obtain ⟨m, hm⟩ := k2; exact DataW.trod_lt m _ _ _ hm
  obtain ⟨m2, hm_2⟩ := h2
  obtain ⟨x2, hK2, w2⟩ := Go.Proofs.YtdonlmbhamcjdaaRRR.J.OfResponseSound.O66 enc W 0 _ _ m2 _ _ hm_2
  obtain ⟨A2, c2, hop2, hc2, hr2⟩ := Go.Proofs.YtdonlmbhamcjdaaRRR.J.OfResponseSound.k66_open hK2
  obtain rfl : cs2 = #[.int .i64 x2.1.f0, .int .i64 x2.1.f1, .slice A2 x2.2.1.length c2, .int .i64 x2.2.2] := by first | exact Array.toList_inj.1 hop2 | (apply Array.toList_inj.1; simpa [Value.cells] using hop2)
  clear hA0 hval0 hsz0 hsz
  obtain ⟨k, h⟩ := Tithe.Evt.ex (Go.Proofs.YtdonlmbhamcjdaaRRR.Pure.sound_evt l0 l1 x2.1.f0 x2.1.f1 x2.2.1 x2.2.2 (by omega) (by omega))
  refine (Go.Proofs.YtdonlmbhamcjdaaRRR.J.tithelaw22_ResponseSound.calls k _ _ l0 _ _ l1 x2.1.f0 x2.1.f1 _ _ x2.2.1 x2.2.2 true W hr0 hc0 hr1 hc1 hr2 hc2 h).mono fun e W' ⟨he, bel⟩ => ?_
  subst he
  exact ⟨_, rfl, _, _, _, [], _, [], hW', trodAll_mk1 (shut_bool Try.underlying4 _), (trodAll_cons_mk (Below.trod laidOut (by kernel_rfl) (of_decide_eq_true (by kernel_rfl)) k0 bel lt0) (trodAll_cons_mk (Below.trod laidOut (by kernel_rfl) (of_decide_eq_true (by kernel_rfl)) k1 bel lt1) (trodAll_cons_mk (Below.trod laidOut (by kernel_rfl) (of_decide_eq_true (by kernel_rfl)) k2 bel lt2) trodAll_mk0))), rfl, bel.frame _, fun h => by cases h⟩
theorem over : Rows.responseSoundRow.holds Try.pinned (OpenSpec.ofChange Rows.responseSoundSpec) :=
  OpenClaim.holds_of_wide 10 Try.f10 rfl rfl rfl rfl rfl rfl rfl ⟨rfl, rfl, rfl, rfl, rfl⟩ rfl rfl rfl rfl rfl (by kernel_rfl) Try.func10 (by kernel_rfl)
    (of_decide_eq_true (by kernel_rfl)) (by unfold Func.isWrapper; first | (rw [if_pos (by decide +kernel)]; kernel_rfl) | (rw [if_neg (by decide +kernel)]; exact ⟨rfl, rfl⟩))
    (fun os started H enc _ => lifted os started H enc)
theorem proved : Rows.ResponseSoundSaid := over
#print axioms proved
end Go.Proofs.YtdonlmbhamcjdaaRRR.responseSound
namespace Go.Proofs.YtdonlmbhamcjdaaRRR
/-- The row, under a short name, for the claim. -/
theorem responseSound_holds : Rows.ResponseSoundSaid := responseSound.proved
end Go.Proofs.YtdonlmbhamcjdaaRRR
