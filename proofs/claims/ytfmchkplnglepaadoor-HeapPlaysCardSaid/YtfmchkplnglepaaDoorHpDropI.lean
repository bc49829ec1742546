/- Proved here: what Drop and Key do to a heap, told by the sorted list. No conditions. -/
import Derived.Test.YtfmchkplnglepaaDoorHpMoveSI
namespace Go.Proofs.YtfmchkplnglepaaDoor.HpI
open Go.RowKit Go.Proofs.YtfmchkplnglepaaDoorW.PrintWords Go.Proofs.YtfmchkplnglepaaDoorW.PrintLast Go.Proofs.YtfmchkplnglepaaDoorW.PrintMore
open Go Go.Maps Go.Proofs.YtfmchkplnglepaaDoor.Hp
set_option linter.unusedVariables false
set_option linter.unusedSimpArgs false
set_option maxHeartbeats 8000000 in
set_option maxRecDepth 100000 in
theorem drop_calls {P : Nat → Prop} {W : World} {g : Nat} {es : List En} (h : HP P g es W) (id : Int) (hw : -9223372036854775808 ≤ id ∧ id ≤ 9223372036854775807) :
    Calls Tryd.prog 28 #[.pointer (some ⟨g, 0, none⟩), .int .i64 id] W fun e W' =>
      (id ∉ es.map (·.1) → e = .returned (.iface 73 (.int .i64 50)) ∧ W' = W) ∧ (id ∈ es.map (·.1) → e = .returned .nilIface ∧ ∃ j, j < es.length ∧ (at' es j).1 = id ∧ HP P g (removeL es j) W' ∧ Off P W W') := by
  have huP := Tryd.underlying58
  have huH := Tryd.underlying83
  have HPL := Aside0.mk (place_calls h id hw)
  by_cases hin : id ∈ es.map (·.1)
  · obtain ⟨j, hj, hje⟩ := at_mem hin
    have HR := Aside0.mk (remove_calls h hj)
    have HJ := Aside0.mk (show j < es.length ∧ (at' es j).1 = id from ⟨hj, hje⟩)
    have HIN := Aside0.mk hin
    clear h hin hj hje hw
    go_enter Tryd.func28, Tryd.ntmps28
    go_wp2_with (first
      | (go_at_call 45; refine HPL.out.mono ?_; rintro e W' ⟨hW, _, hpl⟩; rw [hW]; clear hW; obtain rfl := hpl j HJ.out.1 HJ.out.2; clear hpl)
      | (go_at_call 47; refine HR.out.mono ?_; rintro e w3 ⟨rfl, hh, ho⟩; have HU := Aside0.mk hh; have HO := Aside0.mk ho; clear hh ho)
      | go_in)
    go_ret
    exact ⟨fun hn => absurd HIN.out hn, fun _ => ⟨rfl, j, HJ.out.1, HJ.out.2, HU.out, HO.out⟩⟩
  · have HIN := Aside0.mk hin
    clear h hin hw
    go_enter Tryd.func28, Tryd.ntmps28
    go_wp2_with (first
      | (go_at_call 45; refine HPL.out.mono ?_; rintro e W' ⟨hW, hpl, _⟩; rw [hW]; clear hW; obtain rfl := hpl HIN.out; clear hpl)
      | go_in)
    go_ret
    exact ⟨fun _ => ⟨rfl, rfl⟩, fun hi => absurd hi HIN.out⟩
set_option maxHeartbeats 8000000 in
set_option maxRecDepth 100000 in
theorem key_calls {P : Nat → Prop} {W : World} {g : Nat} {es : List En} (h : HP P g es W) (id : Int) (hw : -9223372036854775808 ≤ id ∧ id ≤ 9223372036854775807) :
    Calls Tryd.prog 32 #[.pointer (some ⟨g, 0, none⟩), .int .i64 id] W fun e W' => (∃ n, W' = W.drewN n) ∧
      (id ∉ es.map (·.1) → e = .returned (.tuple #[kv 0, .bool false])) ∧ (∀ j, j < es.length → (at' es j).1 = id → e = .returned (.tuple #[kv (at' es j).2, .bool true])) := by
  have huP := Tryd.underlying58
  have huH := Tryd.underlying83
  have huL := Tryd.underlying81
  have huE := Tryd.underlying85
  have HPL := Aside0.mk (place_calls h id hw)
  by_cases hin : id ∈ es.map (·.1)
  · obtain ⟨j, hj, hje⟩ := at_mem hin
    obtain ⟨go, c, c0, hel⟩ := h.look (by omega)
    obtain ⟨x0, x1⟩ := hel j hj
    have HJ := Aside0.mk (show j < es.length ∧ (at' es j).1 = id from ⟨hj, hje⟩)
    have HFIN := Aside0.mk (show ∀ e : Ending, e = .returned (.tuple #[kv (at' es j).2, .bool true]) → (id ∉ es.map (·.1) → e = .returned (.tuple #[kv 0, .bool false])) ∧ ∀ j : Nat, j < es.length → (at' es j).1 = id → e = .returned (.tuple #[kv (at' es j).2, .bool true]) from
      fun e he => ⟨fun hn => absurd hin hn, fun j2 h2 e2 => by rw [he, h.nodup h2 hj (e2.trans hje.symm)]⟩)
    obtain ⟨y, hy⟩ : ∃ y, es.getD j z = y := ⟨_, rfl⟩
    have hy2 : at' es j = y := hy
    rw [hy] at x0 x1
    rw [hy2] at HFIN
    have p0 : (0 ≤ (j : Int)) = True := eq_true (by omega)
    have p1 : ((j : Int) < (es.length : Int)) = True := eq_true (by omega)
    have p1' : (j < es.length) = True := eq_true hj
    clear h hin hj hje hw hel hy hy2
    unfold kv at *
    go_enter Tryd.func32, Tryd.ntmps32
    go_wp2_with (first
      | (go_at_call 45; refine HPL.out.mono ?_; rintro e W' ⟨hW, _, hpl⟩; rw [hW]; clear hW; obtain rfl := hpl j HJ.out.1 HJ.out.2; clear hpl)
      | go_in)
    go_ret2
    exact ⟨by first | exact ⟨0, rfl⟩ | exact ⟨_, rfl⟩, HFIN.out _ rfl⟩
  · have HIN := Aside0.mk hin
    have HFIN := Aside0.mk (show ∀ e : Ending, e = .returned (.tuple #[kv 0, .bool false]) → (id ∉ es.map (·.1) → e = .returned (.tuple #[kv 0, .bool false])) ∧ ∀ j : Nat, j < es.length → (at' es j).1 = id → e = .returned (.tuple #[kv (at' es j).2, .bool true]) from
      fun e he => ⟨fun _ => he, fun j2 h2 e2 => absurd (e2 ▸ mem_at h2) hin⟩)
    clear h hin hw
    unfold kv at *
    go_enter Tryd.func32, Tryd.ntmps32
    go_wp2_with (first
      | (go_at_call 45; refine HPL.out.mono ?_; rintro e W' ⟨hW, hpl, _⟩; rw [hW]; clear hW; obtain rfl := hpl HIN.out; clear hpl)
      | go_in)
    go_ret2
    exact ⟨by first | exact ⟨0, rfl⟩ | exact ⟨_, rfl⟩, HFIN.out _ rfl⟩
theorem ids_nodup {es : List En} (hnd : ∀ i j, i < es.length → j < es.length → (at' es i).1 = (at' es j).1 → i = j) : (es.map (·.1)).Nodup := by
  refine List.pairwise_iff_getElem.2 fun i j hi hj hij e => ?_
  have hi2 : i < es.length := by simpa using hi
  have hj2 : j < es.length := by simpa using hj
  have := hnd i j hi2 hj2 (by unfold at'; rw [getD_eq hi2, getD_eq hj2]; simpa using e)
  omega
theorem HS.nodup {P : Nat → Prop} {W : World} {g : Nat} {L : List En} (h : HS P g L W) : (L.map (·.1)).Nodup := by
  obtain ⟨es, h1, h2⟩ := h
  exact (h2.2.1.map (·.1)).nodup_iff.1 (ids_nodup (fun i j hi hj e => h1.nodup hi hj e))
theorem HS.ints {P : Nat → Prop} {W : World} {g : Nat} {L : List En} (h : HS P g L W) : ∀ e ∈ L, -9223372036854775808 ≤ e.1 ∧ e.1 ≤ 9223372036854775807 := by
  obtain ⟨es, h1, h2⟩ := h
  exact fun e he => h1.wf e (h2.2.1.mem_iff.2 he)
theorem rep_drop {es L : List En} (h : Rep es L) (hnd : ∀ i j, i < es.length → j < es.length → (at' es i).1 = (at' es j).1 → i = j) {id : Int} {j : Nat} (hj : j < es.length) (hje : (at' es j).1 = id) : Rep (removeL es j) (del id L) := by
  obtain ⟨h1, h2⟩ := rem_heap h.1 hj
  have hn2 := (h2.map (·.1)).nodup_iff.1 (ids_nodup hnd)
  simp only [List.map_cons, List.nodup_cons] at hn2
  rw [hje] at hn2
  refine ⟨h1, ?_, del_srt h.2.2⟩
  have h3 := (h2.symm.trans h.2.1).filter (fun e => e.1 != id)
  rw [List.filter_cons_of_neg (by rw [hje]; simp), List.filter_eq_self.2 (fun e he => by
    simp only [bne_iff_ne, ne_eq]
    exact fun e2 => hn2.1 (e2 ▸ List.mem_map_of_mem he))] at h3
  exact h3
theorem hs_drop {P : Nat → Prop} {W : World} {g : Nat} {L : List En} (h : HS P g L W) (id : Int) (hw : -9223372036854775808 ≤ id ∧ id ≤ 9223372036854775807) :
    Calls Tryd.prog 28 #[.pointer (some ⟨g, 0, none⟩), .int .i64 id] W fun e W' =>
      (id ∉ L.map (·.1) → e = .returned (.iface 73 (.int .i64 50)) ∧ W' = W) ∧ (id ∈ L.map (·.1) → e = .returned .nilIface ∧ HS P g (del id L) W' ∧ Off P W W') := by
  obtain ⟨es, h1, h2⟩ := h
  have hm : id ∈ es.map (·.1) ↔ id ∈ L.map (·.1) := (h2.2.1.map (·.1)).mem_iff
  refine (drop_calls h1 id hw).mono ?_
  intro e W' hh
  refine ⟨fun hn => hh.1 (fun hc => hn (hm.1 hc)), fun hi => ?_⟩
  obtain ⟨he, j, hj, hje, hp, ho⟩ := hh.2 (hm.2 hi)
  exact ⟨he, ⟨_, hp, rep_drop h2 (fun i j hi hj e => h1.nodup hi hj e) hj hje⟩, ho⟩
/-- a number's key -/
def keyL (id : Int) (L : List En) : Int × Bool := match L.find? (fun e => e.1 == id) with
  | some e => (e.2, true)
  | none => (0, false)
theorem keyL_none {id : Int} {L : List En} (h : id ∉ L.map (·.1)) : keyL id L = (0, false) := by
  unfold keyL
  rw [List.find?_eq_none.2 (fun e he => by
    simp only [beq_iff_eq]
    exact fun e2 => h (e2 ▸ List.mem_map_of_mem he))]
theorem keyL_some {L : List En} (hn : (L.map (·.1)).Nodup) {e : En} (he : e ∈ L) : keyL e.1 L = (e.2, true) := by
  unfold keyL
  cases hf : L.find? (fun x => x.1 == e.1) with
  | none =>
    have := List.find?_eq_none.1 hf e he
    simp at this
  | some x =>
    have h1 := List.find?_some hf
    have h2 := List.mem_of_find?_eq_some hf
    simp only [beq_iff_eq] at h1
    obtain ⟨i, hi, ei⟩ := List.getElem_of_mem h2
    obtain ⟨j, hj, ej⟩ := List.getElem_of_mem he
    have hi' : i < (L.map (·.1)).length := by simpa using hi
    have hj' : j < (L.map (·.1)).length := by simpa using hj
    have : i = j := by
      refine (List.getElem_inj (h₀ := hi') (h₁ := hj') hn).1 ?_
      simp only [List.getElem_map, ei, ej, h1]
    subst this
    rw [← ei, ← ej]
theorem hs_key {P : Nat → Prop} {W : World} {g : Nat} {L : List En} (h : HS P g L W) (id : Int) (hw : -9223372036854775808 ≤ id ∧ id ≤ 9223372036854775807) :
    Calls Tryd.prog 32 #[.pointer (some ⟨g, 0, none⟩), .int .i64 id] W fun e W' => e = .returned (.tuple #[kv (keyL id L).1, .bool (keyL id L).2]) ∧ ∃ n, W' = W.drewN n := by
  have hnd := h.nodup
  obtain ⟨es, h1, h2⟩ := h
  have hm : id ∈ es.map (·.1) ↔ id ∈ L.map (·.1) := (h2.2.1.map (·.1)).mem_iff
  refine (key_calls h1 id hw).mono ?_
  rintro e W' ⟨hW, ha, hb⟩
  refine ⟨?_, hW⟩
  by_cases hin : id ∈ es.map (·.1)
  · obtain ⟨j, hj, hje⟩ := at_mem hin
    rw [hb j hj hje, ← hje, keyL_some hnd (e := at' es j) (h2.2.1.mem_iff.1 (getD_mem' hj))]
  · rw [ha hin, keyL_none (fun hc => hin (hm.2 hc))]
end Go.Proofs.YtfmchkplnglepaaDoor.HpI
