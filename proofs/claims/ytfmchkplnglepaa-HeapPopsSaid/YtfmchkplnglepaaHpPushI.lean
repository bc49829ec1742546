/- Proved here: what Push does to a heap, told by the row as it lies. No conditions. -/
import Derived.Test.YtfmchkplnglepaaHpOpsI
import Derived.WalkSpells
namespace Go.Proofs.Ytfmchkplnglepaa.HpI
open Go.RowKit Go.Proofs.YtfmchkplnglepaaW.PrintWords Go.Proofs.YtfmchkplnglepaaW.PrintLast Go.Proofs.YtfmchkplnglepaaW.PrintMore
open Go Go.Maps Go.Proofs.Ytfmchkplnglepaa.Hp
set_option linter.unusedVariables false
set_option linter.unusedSimpArgs false
def pushL (es : List En) (p : En) : List En := upL (es.length + 1) (es ++ [p]) es.length
theorem swp_mem_iff {es : List En} {i : Nat} : ∀ (f : Nat), (upL f es i).length = es.length := by
  intro f
  induction f generalizing es i with
  | zero => rfl
  | succ f ih => unfold upL; split <;> simp [ih, swp_len]
/-- behind the append: the field is written, then the map -/
theorem push_facts {P : Nat → Prop} {W w1 : World} {g bm c : Nat} {A : Option Addr} {es : List En} {D : DataW Unit} (hb : W.heap[g]? = some (.cells #[.slice A es.length c, .map (some bm)] 66 (0, 0))) (hPg : P g) (hPm : P bm) (hmg : bm ≠ g)
    (hR : Kd.R dE 68 W 0 (fun k => P k ∧ k ≠ g ∧ k ≠ bm) (.slice A es.length c) es) (hM : W.ownsMap Try.prog 3 (plainElem Try.prog 3) bm (Maps.size D) D) (hok : MapOk (es.map (·.1)) D) (hlen : es.length < 1000000) (hwf : ∀ e ∈ es, -9223372036854775808 ≤ e.1 ∧ e.1 ≤ 9223372036854775807)
    {p : En} (hn : p.1 ∉ es.map (·.1)) (hw : -9223372036854775808 ≤ p.1 ∧ p.1 ≤ 9223372036854775807) {v1 : Value} (ho : Kd.R dE 68 w1 0 (fun k => P k ∧ k ≠ g ∧ k ≠ bm) v1 (es ++ [p])) (hg : W.grownBy w1 (Value.slice A es.length c).ownBlock) :
    ∃ (A' : Option Addr) (c' : Nat), v1 = .slice A' (es.length + 1) c' ∧ w1.cell? ⟨g, 0, none⟩ = some (.slice A es.length c) ∧ w1.frozen? ⟨g, 0, none⟩ = false ∧ ∃ W3 : World,
      (Instr.mapUpdate 54 (.map (some bm)) (.int .i64 p.1) (.int .i64 (es.length : Int))).run Try.prog (w1.setCell ⟨g, 0, none⟩ (.slice A' (es.length + 1) c')).drew = .ok () W3 ∧
      (∀ V : World, (V = (w1.setCell ⟨g, 0, none⟩ (.slice A' (es.length + 1) c')).drew ∨ V = W3) → V.cell? ⟨g, 0, none⟩ = some (.slice A' (es.length + 1) c') ∧ V.cell? ⟨g, 1, none⟩ = some (.map (some bm))) ∧ HP P g (es ++ [p]) W3 ∧ Off P W W3 := by
  have hrow : ∀ k, (Value.slice A es.length c).ownBlock = some k → P k ∧ k ≠ g ∧ k ≠ bm := hR.1
  have hgn : some g ≠ (Value.slice A es.length c).ownBlock := fun e => (hrow g e.symm).2.1 rfl
  have hmn : some bm ≠ (Value.slice A es.length c).ownBlock := fun e => (hrow bm e.symm).2.2 rfl
  obtain ⟨A', c', rfl⟩ := Kd.R_slice ho
  have hll : (es ++ [p]).length = es.length + 1 := by simp
  rw [hll] at ho
  have hb1 := blk_grown hb hg hgn
  have hM1 := hM.kept hg hmn
  have hb2 := blk_set hb1 0 (.slice A' (es.length + 1) c')
  have hb2' : (w1.setCell ⟨g, 0, none⟩ (.slice A' (es.length + 1) c')).heap[g]? = some (.cells #[.slice A' (es.length + 1) c', .map (some bm)] 66 (0, 0)) := hb2
  have hR2 := Kd.R_far ho (p := ⟨g, 0, none⟩) (fun k hk => hk.2.1) (.slice A' (es.length + 1) c')
  have hM2 := hM1.kept (grown_set w1 g 0 (.slice A' (es.length + 1) c')) (fun e => hmg (Option.some.inj e))
  rw [hll]
  refine ⟨A', c', rfl, cell_of_row w1 g 0 _ _ (0, 0) hb1, blk_frozen hb1 0, ?_⟩
  have hoff2 : Off P W (w1.setCell ⟨g, 0, none⟩ (.slice A' (es.length + 1) c')) := ((Off.refl P W).grown hg (fun k e => (hrow k e).1)).grown (grown_set w1 g 0 _) (fun k e => by cases e; exact hPg)
  generalize w1.setCell ⟨g, 0, none⟩ (.slice A' (es.length + 1) c') = W2 at *
  have hids : (es.map (·.1)).length = es.length := by simp
  have hsz : Maps.size D = es.length := by rw [hok.sz, hids]
  obtain ⟨W3, hU, hM3, hg3⟩ := hM2.drew.update law3 Try.underlying54 (by unfold maxLen; omega) (key3 hw.1 hw.2) (elem3 (a := (es.length : Int)) (by omega) (by omega))
  have hb3 : W3.heap[g]? = some (.cells #[.slice A' (es.length + 1) c', .map (some bm)] 66 (0, 0)) := blk_grown (w := W2.drew) hb2' hg3 (fun e => hmg (Option.some.inj e).symm)
  refine ⟨W3, hU, ?_, ?_, hoff2.drew.grown hg3 (fun k e => by cases e; exact hPm)⟩
  · rintro V (rfl | rfl)
    · exact ⟨cell_of_row W2 g 0 _ _ (0, 0) hb2', cell_of_row W2 g 1 _ _ (0, 0) hb2'⟩
    · exact ⟨cell_of_row _ g 0 _ _ (0, 0) hb3, cell_of_row _ g 1 _ _ (0, 0) hb3⟩
  · have hOK := hok.push hn
    rw [hids] at hOK
    refine ⟨A', c', bm, _, by rw [hll]; exact hb3, hPg, hPm, hmg, by rw [hll]; exact Kd.R_grown (Kd.R_drew hR2) hg3 (fun k hk e => hk.2.2 (Option.some.inj e)), own_tight hM3, by rw [List.map_append]; exact hOK, by omega, ?_⟩
    intro e he
    rcases List.mem_append.1 he with he | he
    · exact hwf e he
    · simp at he; rw [he]; exact hw
set_option maxHeartbeats 16000000 in
set_option maxRecDepth 100000 in
theorem push_calls {P : Nat → Prop} {W : World} {g : Nat} {es : List En} (h : HP P g es W) (hP : ∀ k, W.heap.size ≤ k → P k) (hlen : es.length < 1000000) (p : En) (hw : -9223372036854775808 ≤ p.1 ∧ p.1 ≤ 9223372036854775807) :
    Calls Try.prog 18 #[.pointer (some ⟨g, 0, none⟩), .int .i64 p.1, kv p.2] W fun e W' =>
      if p.1 ∈ es.map (·.1) then e = .returned (.iface 58 (.int .i64 1)) ∧ W' = W else e = .returned .nilIface ∧ HP P g (pushL es p) W' ∧ Off P W W' := by
  have hwf := h.wf
  obtain ⟨A, c, bm, D, hb, hPg, hPm, hmg, hR, hM, hok, _, _⟩ := h
  have hgl : g < W.heap.size := blk_lt hb
  have hml : bm < W.heap.size := hM.lt
  have c0 : W.cell? ⟨g, 0, none⟩ = some (.slice A es.length c) := cell_of_row W g 0 _ _ (0, 0) hb
  have c1 : W.cell? ⟨g, 1, none⟩ = some (.map (some bm)) := cell_of_row W g 1 _ _ (0, 0) hb
  have huP := Try.underlying46
  have huL := Try.underlying64
  have huE := Try.underlying68
  have huH := Try.underlying66
  have huM := Try.underlying54
  have qT : ∀ (w : World) (r : Option Nat), (binOp .eql 54 (.map r) (.map none)).run Try.prog w = .ok (.bool r.isNone) w := fun w r => run_eql_map_nil w _ _ _ r Try.underlying54
  have hhas := hok.has_mem p.1
  have hkey := key3 hw.1 hw.2
  have HM := Aside0.mk hM
  by_cases hin : p.1 ∈ es.map (·.1)
  · rw [decide_eq_true hin] at hhas
    have HHAS := Aside0.mk hhas
    simp only [if_pos hin]
    clear hb hPg hPm hmg hR hM hok hwf hP hgl hml hhas hin hlen hw
    unfold kv
    go_enter Try.func18, Try.ntmps18
    go_wp2_with (first
      | (at_lookup; refine wpList_lookup_own_ok_int _ rfl _ _ 54 rfl 3 3 .i64 law3 Try.underlying54 Try.underlying3 (zero3 _) bm (Maps.size D) D rfl HM.out _ _ rfl hkey ?_; intro cc hat hwc; rw [HHAS.out]; clear hat hwc)
      | go_in)
    go_ret
    exact ⟨rfl, rfl⟩
  · rw [decide_eq_false hin] at hhas
    have HHAS := Aside0.mk hhas
    simp only [if_neg hin]
    have HF := Aside0.mk (fun {w1 : World} {v1 : Value} => push_facts (P := P) (w1 := w1) (v1 := v1) hb hPg hPm hmg hR hM hok hlen hwf (p := p) hin hw)
    have HR := Aside0.mk hR
    have HFR := Aside0.mk (show ∀ k, W.heap.size ≤ k → P k ∧ k ≠ g ∧ k ≠ bm from fun k hk => ⟨hP k hk, by omega, by omega⟩)
    have HL := Aside0.mk hlen
    have e1_ := Aside0.mk (show IntKind.i64.wrap (((es.length + 1 : Nat) : Int) - 1) = (es.length : Int) by rw [i64_w]; unfold wrap64; omega)
    have e2_ := Aside0.mk (show wrap64 (((es.length + 1 : Nat) : Int) - 1) = (es.length : Int) by unfold wrap64; omega)
    have hpush : upL (es.length + 1) (es ++ [p]) es.length = pushL es p := rfl
    have HLE := Aside0.mk (show es.length < (es ++ [p]).length by simp)
    clear hb hPg hPm hmg hR hM hok hwf hP hgl hml hhas hin hlen hw
    have HUP := Aside0.mk (fun (V : World) (hV : HP P g (es ++ [p]) V) => show Calls Try.prog 27 #[.pointer (some ⟨g, 0, none⟩), .int .i64 (es.length : Int)] V fun e W' => e = .returned (.tuple #[]) ∧ HP P g (pushL es p) W' ∧ Off P V W' from up_calls hV HLE.out)
    obtain ⟨n, hn⟩ : ∃ n, es.length = n := ⟨_, rfl⟩
    obtain ⟨n1, hn1⟩ : ∃ n1, n + 1 = n1 := ⟨_, rfl⟩
    have e1 := e1_.out
    have e2 := e2_.out
    rw [hn, hn1] at e1 e2
    rw [hn] at c0 HF HR HUP
    rw [hn1] at HF
    clear e1_ e2_ HLE hn hn1 hpush
    unfold kv at *
    go_enter Try.func18, Try.ntmps18
    go_wp2_with (first
      | (at_lookup; refine wpList_lookup_own_ok_int _ rfl _ _ 54 rfl 3 3 .i64 law3 Try.underlying54 Try.underlying3 (zero3 _) bm (Maps.size D) D rfl HM.out _ _ rfl hkey ?_; intro cc hat hwc; rw [HHAS.out]; clear hat hwc)
      | ((with_reducible refine gate_builtin (b := .append) (xs := #[.tmp 34, .tmp 38]) rfl ?_); at_builtin; refine Kd.R_append dE (w0 := W) 0 rfl (.tmp 34) (.tmp 38) 64 68 (.agg #[.int .i64 0, kv 0]) 16 rfl Try.underlying64 infoE rfl (by decide) (by omega) (.slice A n c) es p [.int .i64 p.1, kv p.2] (fun k => P k ∧ k ≠ g ∧ k ≠ bm) (fun _ => False) rfl rfl (dE_mk _ _ _ p) (fun _ hk => hk.elim) HFR.out HR.out (Below.refl _ _) (Nat.zero_le _) (by have := HL.out; omega) ?_; intro v1 w1 ho hb hg hat; obtain ⟨A', c', rfl, k0, kf, W3, hU, hS, hHP, hOff⟩ := HF.out ho hg; have HS := Aside0.mk hS; have HU := Aside0.mk (show Ups P g (es ++ [p]) W W3 from ⟨hHP, hOff⟩); clear hS hHP hOff ho hb hg hat c0 c1)
      | go_in)
    clear k0 kf
    go_region_held3 (fun V : World => V.cell? ⟨g, 0, none⟩ = some (.slice A' n1 c') ∧ V.cell? ⟨g, 1, none⟩ = some (.map (some bm))) (first | exact HS.out _ (Or.inl rfl) | exact HS.out _ (Or.inr rfl)) (fail)
    all_goals have k1 := (HS.out W3 (Or.inr rfl)).1
    all_goals go_wp2_with (first
      | (go_at_call 27; refine (HUP.out _ (show Ups P g (es ++ [p]) W _ from by repeat (first | exact HU.out | apply Ups.drew | apply Ups.drewN | apply Ups.alloc)).1).mono ?_; rintro e w3 ⟨rfl, hh, ho⟩; have HU2 := Aside0.mk (show Ups P g (pushL es p) W w3 from ⟨hh, (show Ups P g (es ++ [p]) W _ from by repeat (first | exact HU.out | apply Ups.drew | apply Ups.drewN | apply Ups.alloc)).2.trans ho⟩); clear hh ho)
      | go_in)
    all_goals go_ret
    all_goals exact ⟨rfl, HU2.out.1, HU2.out.2⟩
end Go.Proofs.Ytfmchkplnglepaa.HpI
