/- Proved here: what a calendar's Drop and At do, and Put at what it refuses. No conditions. -/
import Derived.Test.YtfmchkplnglepaaDoorHpDropI
import Derived.Test.YtfmchkplnglepaaDoorHpBoI
namespace Go.Proofs.YtfmchkplnglepaaDoor.HpI
open Go.RowKit Go.Proofs.YtfmchkplnglepaaDoorW.PrintWords Go.Proofs.YtfmchkplnglepaaDoorW.PrintLast Go.Proofs.YtfmchkplnglepaaDoorW.PrintMore
open Go Go.Proofs.YtfmchkplnglepaaDoor.Hp
set_option linter.unusedVariables false
set_option linter.unusedSimpArgs false
theorem Ca.nodup {P : Nat → Prop} {W : World} {c : Nat} {L : List En} (h : Ca P c L W) : (L.map (·.1)).Nodup := by
  obtain ⟨g, _, _, h3⟩ := h; exact h3.nodup
theorem Ca.ints {P : Nat → Prop} {W : World} {c : Nat} {L : List En} (h : Ca P c L W) : ∀ e ∈ L, -9223372036854775808 ≤ e.1 ∧ e.1 ≤ 9223372036854775807 := by
  obtain ⟨g, _, _, h3⟩ := h; exact h3.ints
set_option maxHeartbeats 8000000 in
set_option maxRecDepth 100000 in
theorem cal_put_neg (W : World) (c : Nat) (id a : Int) (h : id < 0 ∨ a < 0) :
    Calls Tryd.prog 13 #[.pointer (some ⟨c, 0, none⟩), .int .i64 id, .int .i64 a] W fun e W' => e = .returned (.iface 73 (.int .i64 1)) ∧ ∃ n, W' = W.drewN n := by
  have huP := Tryd.underlying36
  have huC := Tryd.underlying79
  by_cases h1 : id < 0
  · have d1 : decide (id < 0) = true := decide_eq_true h1
    clear h h1
    go_enter Tryd.func13, Tryd.ntmps13
    go_wp2
    go_ret
    exact ⟨rfl, by first | exact ⟨0, rfl⟩ | exact ⟨_, rfl⟩⟩
  · have d1 : decide (id < 0) = false := decide_eq_false h1
    have d2 : decide (a < 0) = true := decide_eq_true (by omega)
    clear h h1
    go_enter Tryd.func13, Tryd.ntmps13
    go_wp2
    go_ret
    exact ⟨rfl, by first | exact ⟨0, rfl⟩ | exact ⟨_, rfl⟩⟩
set_option maxHeartbeats 8000000 in
set_option maxRecDepth 100000 in
theorem cal_at {P : Nat → Prop} {W : World} {c : Nat} {L : List En} (h : Ca P c L W) (id : Int) (hw : -9223372036854775808 ≤ id ∧ id ≤ 9223372036854775807) :
    Calls Tryd.prog 18 #[.pointer (some ⟨c, 0, none⟩), .int .i64 id] W fun e W' => e = .returned (.tuple #[.int .i64 (keyL id L).1, .bool (keyL id L).2]) ∧ ∃ n, W' = W.drewN n := by
  obtain ⟨g, hb, _, hs⟩ := h
  have c0 : W.cell? ⟨c, 0, none⟩ = some (.pointer (some ⟨g, 0, none⟩)) := cell_of_row W c 0 _ _ (0, 0) hb
  have HM := Aside0.mk (hs_key hs id hw)
  have huP := Tryd.underlying36
  have huC := Tryd.underlying79
  have huH := Tryd.underlying58
  clear hb hs hw
  unfold kv at *
  go_enter Tryd.func18, Tryd.ntmps18
  go_wp2_with (first
    | (go_at_call 32; refine HM.out.mono ?_; rintro e w1 ⟨rfl, n, rfl⟩)
    | go_in)
  go_ret2
  exact ⟨rfl, _, rfl⟩
set_option maxHeartbeats 8000000 in
set_option maxRecDepth 100000 in
theorem cal_drop {P : Nat → Prop} {W : World} {c : Nat} {L : List En} (h : Ca P c L W) (id : Int) (hw : -9223372036854775808 ≤ id ∧ id ≤ 9223372036854775807) :
    Calls Tryd.prog 15 #[.pointer (some ⟨c, 0, none⟩), .int .i64 id] W fun e W' =>
      (id ∉ L.map (·.1) → e = .returned (.iface 73 (.int .i64 50)) ∧ W' = W) ∧ (id ∈ L.map (·.1) → e = .returned .nilIface ∧ Ca P c (del id L) W' ∧ Off P W W') := by
  have hclt := h.lt
  obtain ⟨g, hb, hPc, hs⟩ := h
  have c0 : W.cell? ⟨c, 0, none⟩ = some (.pointer (some ⟨g, 0, none⟩)) := cell_of_row W c 0 _ _ (0, 0) hb
  have huP := Tryd.underlying36
  have huC := Tryd.underlying79
  have huH := Tryd.underlying58
  have HM := Aside0.mk (hs_drop hs id hw)
  have HFIN := Aside0.mk (show ∀ (V : World) (M : List En), HS (fun k => P k ∧ k ≠ c) g M V → Off (fun k => P k ∧ k ≠ c) W V → Ca P c M V ∧ Off P W V from fun V M hm ho =>
    ⟨⟨g, (ho.2.2.2.2 c hclt (fun hp => hp.2 rfl)).trans hb, hPc, hm⟩, ho.re (fun k hk => hk.1)⟩)
  by_cases hin : id ∈ L.map (·.1)
  · have HIN := Aside0.mk hin
    clear hb hs hPc hclt hin hw
    go_enter Tryd.func15, Tryd.ntmps15
    go_wp2_with (first
      | (go_at_call 28; refine HM.out.mono ?_; intro e w1 hh; obtain ⟨rfl, hm, ho⟩ := hh.2 HIN.out; have HF := Aside0.mk (HFIN.out _ _ hm ho); clear hh hm ho)
      | go_in)
    go_ret
    exact ⟨fun hn => absurd HIN.out hn, fun _ => ⟨rfl, HF.out⟩⟩
  · have HIN := Aside0.mk hin
    clear hb hs hPc hclt hin hw
    go_enter Tryd.func15, Tryd.ntmps15
    go_wp2_with (first
      | (go_at_call 28; refine HM.out.mono ?_; intro e w1 hh; obtain ⟨rfl, hw⟩ := hh.1 HIN.out; rw [hw]; clear hh hw)
      | go_in)
    go_ret
    exact ⟨fun _ => ⟨rfl, rfl⟩, fun hi => absurd hi HIN.out⟩
end Go.Proofs.YtfmchkplnglepaaDoor.HpI
