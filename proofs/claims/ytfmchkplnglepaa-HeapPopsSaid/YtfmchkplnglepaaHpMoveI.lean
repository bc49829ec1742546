/- Proved here: what place and Move do to a heap. No conditions. -/
import Derived.Test.YtfmchkplnglepaaHpTxI
import Derived.WalkSpells
namespace Go.Proofs.Ytfmchkplnglepaa.HpI
open Go.RowKit Go.Proofs.YtfmchkplnglepaaW.PrintWords Go.Proofs.YtfmchkplnglepaaW.PrintLast Go.Proofs.YtfmchkplnglepaaW.PrintMore
open Go Go.Maps Go.Proofs.Ytfmchkplnglepaa.Hp
set_option linter.unusedVariables false
set_option linter.unusedSimpArgs false
theorem HP.nodup {P : Nat → Prop} {g : Nat} {es : List En} {W : World} (h : HP P g es W) {i j : Nat} (hi : i < es.length) (hj : j < es.length) (e : (at' es i).1 = (at' es j).1) : i = j := by
  obtain ⟨A, c, bm, D, h1, h2, h3, h4, h5, h6, h7, h8, h9⟩ := h
  refine h7.nodup (by simpa using hi) (by simpa using hj) ?_
  rw [getD_fst, getD_fst]; exact e
/-- where a number stands -/
theorem at_mem {es : List En} {id : Int} (h : id ∈ es.map (·.1)) : ∃ j, j < es.length ∧ (at' es j).1 = id := by
  obtain ⟨e, he, rfl⟩ := List.mem_map.1 h
  obtain ⟨j, hj, e2⟩ := List.getElem_of_mem he
  exact ⟨j, hj, by unfold at'; rw [getD_eq hj, e2]⟩
theorem mem_at {es : List En} {j : Nat} (h : j < es.length) : (at' es j).1 ∈ es.map (·.1) := List.mem_map_of_mem (getD_mem' h)
set_option maxHeartbeats 8000000 in
set_option maxRecDepth 100000 in
theorem place_calls {P : Nat → Prop} {W : World} {g : Nat} {es : List En} (h : HP P g es W) (id : Int) (hw : -9223372036854775808 ≤ id ∧ id ≤ 9223372036854775807) :
    Calls Try.prog 36 #[.pointer (some ⟨g, 0, none⟩), .int .i64 id] W fun e W' => W' = W ∧ ((id ∉ es.map (·.1) → e = .returned (.tuple #[.int .i64 0, .iface 58 (.int .i64 50)])) ∧ ∀ j : Nat, j < es.length → (at' es j).1 = id → e = .returned (.tuple #[.int .i64 (j : Int), .nilIface])) := by
  have hnd := fun {i j : Nat} => h.nodup (i := i) (j := j)
  obtain ⟨A, c, bm, D, hb, hPg, hPm, hmg, hR, hM, hok, hlen, _⟩ := h
  have c1 : W.cell? ⟨g, 1, none⟩ = some (.map (some bm)) := cell_of_row W g 1 _ _ (0, 0) hb
  have huP := Try.underlying46
  have huH := Try.underlying66
  have hhas := hok.has_mem id
  have hkey := key3 hw.1 hw.2
  have HM := Aside0.mk hM
  by_cases hin : id ∈ es.map (·.1)
  · rw [decide_eq_true hin] at hhas
    have HHAS := Aside0.mk hhas
    obtain ⟨j, hj, hje⟩ := at_mem hin
    have hit := (hok.hit j (by simpa using hj)).1
    rw [getD_fst, show (es.getD j z).1 = id from hje] at hit
    have HIT := Aside0.mk hit
    have HFIN := Aside0.mk (show ∀ e : Ending, e = .returned (.tuple #[.int .i64 (j : Int), .nilIface]) → (id ∉ es.map (·.1) → e = .returned (.tuple #[.int .i64 0, .iface 58 (.int .i64 50)])) ∧ ∀ j : Nat, j < es.length → (at' es j).1 = id → e = .returned (.tuple #[.int .i64 (j : Int), .nilIface]) from
      fun e he => ⟨fun hn => absurd hin hn, fun j2 h2 e2 => by rw [he, hnd h2 hj (e2.trans hje.symm)]⟩)
    clear hb hPg hPm hmg hR hM hok hhas hin hw hit hj hje hlen hnd
    go_enter Try.func36, Try.ntmps36
    go_wp2_with (first
      | (at_lookup; refine wpList_lookup_own_ok_int _ rfl _ _ 54 rfl 3 3 .i64 law3 Try.underlying54 Try.underlying3 (zero3 _) bm (Maps.size D) D rfl HM.out _ _ rfl hkey ?_; intro cc hat hwc; rw [HHAS.out]; obtain rfl : (j : Int) = cc := (by have e := HIT.out.symm.trans hat; injection e with e; injection e with _ e); clear hat hwc)
      | go_in)
    go_ret2
    exact ⟨rfl, HFIN.out _ rfl⟩
  · rw [decide_eq_false hin] at hhas
    have HHAS := Aside0.mk hhas
    have HFIN := Aside0.mk (show ∀ e : Ending, e = .returned (.tuple #[.int .i64 0, .iface 58 (.int .i64 50)]) → (id ∉ es.map (·.1) → e = .returned (.tuple #[.int .i64 0, .iface 58 (.int .i64 50)])) ∧ ∀ j : Nat, j < es.length → (at' es j).1 = id → e = .returned (.tuple #[.int .i64 (j : Int), .nilIface]) from
      fun e he => ⟨fun _ => he, fun j2 h2 e2 => absurd (e2 ▸ mem_at h2) hin⟩)
    clear hb hPg hPm hmg hR hM hok hhas hin hw hlen hnd
    go_enter Try.func36, Try.ntmps36
    go_wp2_with (first
      | (at_lookup; refine wpList_lookup_own_ok_int _ rfl _ _ 54 rfl 3 3 .i64 law3 Try.underlying54 Try.underlying3 (zero3 _) bm (Maps.size D) D rfl HM.out _ _ rfl hkey ?_; intro cc hat hwc; rw [HHAS.out]; clear hat hwc)
      | go_in)
    go_ret2
    exact ⟨rfl, HFIN.out _ rfl⟩
/-- the key of one entry is written -/
theorem key_facts {P : Nat → Prop} {W : World} {g j : Nat} {es : List En} (h : HP P g es W) (hj : j < es.length) (key : Int) :
    ∃ go c : Nat, W.cell? ⟨g, 0, none⟩ = some (.slice (some ⟨go, 0, none⟩) es.length c) ∧ W.cell? ⟨go, j * 2 + 1, none⟩ = some (kv (at' es j).2) ∧ W.frozen? ⟨go, j * 2 + 1, none⟩ = false ∧
      HP P g (es.set j ((at' es j).1, key)) (W.setCell ⟨go, j * 2 + 1, none⟩ (kv key)) ∧ Off P W (W.setCell ⟨go, j * 2 + 1, none⟩ (kv key)) := by
  obtain ⟨A, c, bm, D, hb, hPg, hPm, hmg, hR, hM, hok, hlen, hwf⟩ := h
  obtain ⟨go, co, eo, gb, gl, cl, HGo⟩ := Kd.R_form hR (by omega)
  injection eo with ea en ec
  subst ea
  have hgo := hR.1 go (by simp [Value.ownBlock])
  obtain ⟨x0, x1, f0, f1⟩ := elem_cells hR hj
  obtain ⟨ce, hcl, hMM, hcc, hfr⟩ := Kd.R_elem hR z (j : Int) (by omega) (by omega)
  obtain rfl := dE_open hMM
  simp only [Int.toNat_natCast] at hcc hMM
  obtain ⟨hr2, hg2⟩ := Kd.R_seg hR (j : Int) (by omega) (by omega) (c := [.int .i64 (es.getD j z).1, kv (es.getD j z).2]) (seg := [kv key]) (j := 1) (by simp only [Int.toNat_natCast] at hcl; exact hcl) hcc (show 1 + 1 ≤ 2 from by decide) (x' := ((at' es j).1, key)) (okp := fun k => (P k ∧ k ≠ g ∧ k ≠ bm) ∧ k ≠ go) (dE_mk _ _ _ ((at' es j).1, key)) (fun k hk => hk)
  simp only [Int.toNat_natCast] at hr2 hg2
  have hw : W.setCells go (j * dE.sz + 1) [kv key] = W.setCell ⟨go, j * 2 + 1, none⟩ (kv key) := rfl
  rw [hw] at hr2 hg2
  have hll : (es.set j ((at' es j).1, key)).length = es.length := by simp
  have hids : (es.set j ((at' es j).1, key)).map (·.1) = es.map (·.1) := by
    rw [List.map_set]
    apply List.ext_getElem?
    intro m
    rw [List.getElem?_set]
    by_cases e : j = m
    · subst e
      unfold at'
      rw [getD_eq hj]
      simp [hj]
    · simp [e]
  refine ⟨go, c, cell_of_row W g 0 _ _ (0, 0) hb, x1, f1, ⟨some ⟨go, 0, none⟩, c, bm, D, by rw [hll]; exact blk_grown hb hg2 (fun e => hgo.2.1 (Option.some.inj e).symm), hPg, hPm, hmg, by rw [hll]; exact hr2, hM.kept hg2 (fun e => hgo.2.2 (Option.some.inj e).symm), by rw [hids]; exact hok, by omega, fun e he => ?_⟩, (Off.refl P W).grown hg2 (fun k e => by cases e; exact hgo.1)⟩
  rcases List.mem_or_eq_of_mem_set he with he | rfl
  · exact hwf e he
  · have := hwf _ (getD_mem' hj)
    exact this
/-- what Move leaves -/
def Moved (es : List En) (id : Int) (key : Int) (fs : List En) : Prop := ∃ j j2 : Nat, j < es.length ∧ (at' es j).1 = id ∧ j2 < es.length ∧ (at' (upL (j + 1) (es.set j (id, key)) j) j2).1 = id ∧ fs = downL (es.length + 1) (upL (j + 1) (es.set j (id, key)) j) j2
set_option maxHeartbeats 16000000 in
set_option maxRecDepth 100000 in
theorem move_calls {P : Nat → Prop} {W : World} {g : Nat} {es : List En} (h : HP P g es W) (id : Int) (key : Int) (hw : -9223372036854775808 ≤ id ∧ id ≤ 9223372036854775807) :
    Calls Try.prog 26 #[.pointer (some ⟨g, 0, none⟩), .int .i64 id, kv key] W fun e W' =>
      (id ∉ es.map (·.1) → e = .returned (.iface 58 (.int .i64 50)) ∧ W' = W) ∧ (id ∈ es.map (·.1) → e = .returned .nilIface ∧ ∃ fs, Moved es id key fs ∧ HP P g fs W' ∧ Off P W W') := by
  have huP := Try.underlying46
  have huH := Try.underlying66
  have huL := Try.underlying64
  have huE := Try.underlying68
  have HPL := Aside0.mk (place_calls h id hw)
  by_cases hin : id ∈ es.map (·.1)
  · obtain ⟨j, hj, hje⟩ := at_mem hin
    obtain ⟨go, c, c0, x1, f1, hh1, ho1⟩ := key_facts h hj key
    rw [hje] at hh1
    have hjs : j < (es.set j (id, key)).length := by simp; exact hj
    have HU := Aside0.mk (show Ups P g (es.set j (id, key)) W _ from ⟨hh1, ho1⟩)
    have HJ := Aside0.mk (show j < es.length ∧ (at' es j).1 = id ∧ j < (es.set j (id, key)).length from ⟨hj, hje, hjs⟩)
    have hkey := key3 hw.1 hw.2
    -- the number's place behind up
    have hmu : id ∈ (upL (j + 1) (es.set j (id, key)) j).map (·.1) := by
      refine ((upL_perm _ _ _ hjs).map (·.1)).mem_iff.2 ?_
      have := mem_at hjs
      unfold at' at this
      rw [getD_eq hjs] at this
      simpa using this
    obtain ⟨j2, hj2, hje2⟩ := at_mem hmu
    rw [upL_len] at hj2
    have hj2' : j2 < es.length := by simpa using hj2
    have HJ2 := Aside0.mk (show j2 < (upL (j + 1) (es.set j (id, key)) j).length ∧ (at' (upL (j + 1) (es.set j (id, key)) j) j2).1 = id ∧ (upL (j + 1) (es.set j (id, key)) j).length = es.length from ⟨by rw [upL_len]; exact hj2, hje2, by rw [upL_len]; simp⟩)
    have HFS := Aside0.mk (show Moved es id key (downL (es.length + 1) (upL (j + 1) (es.set j (id, key)) j) j2) from ⟨j, j2, hj, hje, hj2', hje2, rfl⟩)
    have HIN := Aside0.mk hin
    have p0 : (0 ≤ (j : Int)) = True := eq_true (by omega)
    have p1 : ((j : Int) < (es.length : Int)) = True := eq_true (by omega)
    obtain ⟨us, hus⟩ : ∃ us, upL (j + 1) (es.set j (id, key)) j = us := ⟨_, rfl⟩
    have HUS := Aside0.mk hus
    rw [hus] at HJ2 HFS
    obtain ⟨y, hy⟩ : ∃ y, (at' es j).2 = y := ⟨_, rfl⟩
    rw [hy] at x1
    clear h hin hj hje hh1 ho1 hjs hmu hj2 hje2 hj2' hus hy hw
    unfold kv at *
    go_enter Try.func26, Try.ntmps26
    go_wp2_with (first
      | (go_at_call 36; refine HPL.out.mono ?_; rintro e W' ⟨hW, _, hpl⟩; rw [hW]; clear hW; obtain rfl := hpl j HJ.out.1 HJ.out.2.1; clear hpl)
      | (go_at_call 27; refine (up_calls (P := P) (es := es.set j (id, key)) (i := j) (show Ups P g (es.set j (id, key)) W _ from by repeat (first | exact HU.out | apply Ups.drew | apply Ups.drewN | apply Ups.alloc)).1 HJ.out.2.2).mono ?_; rintro e w3 ⟨rfl, hh, ho⟩; rw [HUS.out] at hh; have HU2 := Aside0.mk (show Ups P g us W w3 from ⟨hh, (show Ups P g (es.set j (id, key)) W _ from by repeat (first | exact HU.out | apply Ups.drew | apply Ups.drewN | apply Ups.alloc)).2.trans ho⟩); obtain ⟨A2, c2, bm2, D2, hb2, _, _, _, _, hM2, hok2, _, _⟩ := hh; have k1 := cell_of_row w3 g 1 _ _ (0, 0) hb2; have k2 : w3.cell? ⟨g, 1, none⟩ = some (.map (some bm2)) := k1; have HM2 := Aside0.mk hM2; have hit := (hok2.hit j2 (by simpa using HJ2.out.1)).1; rw [getD_fst, show (us.getD j2 z).1 = id from HJ2.out.2.1] at hit; have HIT := Aside0.mk hit; clear hb2 hM2 hok2 hit k1 ho)
      | (at_lookup; refine wpList_lookup_own_int _ rfl _ _ 54 rfl 3 3 .i64 law3 Try.underlying54 Try.underlying3 (zero3 _) bm2 (Maps.size D2) D2 rfl HM2.out _ _ rfl hkey ?_; intro cc hat hwc; obtain rfl : (j2 : Int) = cc := (by have e := HIT.out.symm.trans hat; injection e with e; injection e with _ e); clear hat hwc)
      | (go_at_call 37; refine (down_calls (P := P) (es := us) (i := j2) (show Ups P g us W _ from by repeat (first | exact HU2.out | apply Ups.drew | apply Ups.drewN | apply Ups.alloc)).1 HJ2.out.1).mono ?_; rintro e w4 ⟨rfl, hh, ho⟩; rw [HJ2.out.2.2] at hh; have HU3 := Aside0.mk (show Ups P g _ W w4 from ⟨hh, (show Ups P g us W _ from by repeat (first | exact HU2.out | apply Ups.drew | apply Ups.drewN | apply Ups.alloc)).2.trans ho⟩); clear hh ho)
      | go_in)
    go_ret
    exact ⟨fun hn => absurd HIN.out hn, fun _ => ⟨rfl, _, HFS.out, HU3.out.1, HU3.out.2⟩⟩
  · have HIN := Aside0.mk hin
    clear h hin hw
    unfold kv at *
    go_enter Try.func26, Try.ntmps26
    go_wp2_with (first
      | (go_at_call 36; refine HPL.out.mono ?_; rintro e W' ⟨hW, hpl, _⟩; rw [hW]; clear hW; obtain rfl := hpl HIN.out; clear hpl)
      | go_in)
    go_ret
    exact ⟨fun _ => ⟨rfl, rfl⟩, fun hi => absurd hi HIN.out⟩
end Go.Proofs.Ytfmchkplnglepaa.HpI
