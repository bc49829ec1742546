/- Proved here: what a calendar's New, Next, Len and Put do, told by the sorted list of what its heap holds. No conditions. -/
import Derived.Test.YtfmchkplnglepaaDoorHpMoveSI
namespace Go.Proofs.YtfmchkplnglepaaDoor.HpI
open Go.RowKit Go.Proofs.YtfmchkplnglepaaDoorW.PrintWords Go.Proofs.YtfmchkplnglepaaDoorW.PrintLast Go.Proofs.YtfmchkplnglepaaDoorW.PrintMore
open Go Go.Proofs.YtfmchkplnglepaaDoor.Hp
set_option linter.unusedVariables false
set_option linter.unusedSimpArgs false
theorem HP.re {P Q : Nat → Prop} {g : Nat} {es : List En} {W : World} (h : HP P g es W) (hq : ∀ k, k < W.heap.size → P k → Q k) : HP Q g es W := by
  obtain ⟨A, c, bm, D, h1, h2, h3, h4, h5, h6, h7⟩ := h
  exact ⟨A, c, bm, D, h1, hq g (blk_lt h1) h2, hq bm h6.lt h3, h4, Kd.R_mono (Kd.R_bound h5) (fun k hk => ⟨hq k hk.2.2.1 hk.1.1, hk.1.2⟩), h6, h7⟩
theorem HS.re {P Q : Nat → Prop} {g : Nat} {L : List En} {W : World} (h : HS P g L W) (hq : ∀ k, k < W.heap.size → P k → Q k) : HS Q g L W := by
  obtain ⟨es, h1, h2⟩ := h
  exact ⟨es, h1.re hq, h2⟩
theorem Off.re {P Q : Nat → Prop} {W W1 : World} (h : Off P W W1) (hq : ∀ k, P k → Q k) : Off Q W W1 := ⟨h.1, h.2.1, h.2.2.1, h.2.2.2.1, fun k hk hn => h.2.2.2.2 k hk (fun hp => hn (hq k hp))⟩
/-- a calendar at block c whose heap holds L; its blocks in P -/
def Ca (P : Nat → Prop) (c : Nat) (L : List En) (W : World) : Prop := ∃ g : Nat, W.heap[c]? = some (.cells #[.pointer (some ⟨g, 0, none⟩)] 79 (0, 0)) ∧ P c ∧ HS (fun k => P k ∧ k ≠ c) g L W
section
variable {P Q : Nat → Prop} {W W1 : World} {c : Nat} {L : List En}
theorem Ca.lt (h : Ca P c L W) : c < W.heap.size := by obtain ⟨g, h1, _⟩ := h; exact blk_lt h1
theorem Ca.srt (h : Ca P c L W) : Srt L := by obtain ⟨g, _, _, h3⟩ := h; exact h3.srt
theorem Ca.re (h : Ca P c L W) (hq : ∀ k, k < W.heap.size → P k → Q k) : Ca Q c L W := by
  obtain ⟨g, h1, h2, h3⟩ := h
  exact ⟨g, h1, hq c (blk_lt h1) h2, h3.re (fun k hk hp => ⟨hq k hk hp.1, hp.2⟩)⟩
theorem Ca.off (h : Ca P c L W) (hk : ∀ k, k < W.heap.size → P k → W1.heap[k]? = W.heap[k]?) : Ca P c L W1 := by
  obtain ⟨g, h1, h2, h3⟩ := h
  exact ⟨g, (hk c (blk_lt h1) h2).trans h1, h2, h3.off (fun k hl hp => hk k hl hp.1)⟩
theorem Ca.below (h : Ca P c L W) (hb : Below W.heap.size W W1) : Ca P c L W1 := h.off (fun k hk _ => hb.block k hk)
theorem Ca.drewN (h : Ca P c L W) (n : Nat) : Ca P c L (W.drewN n) := h.below (pw_below_drewN (Below.refl _ _) n)
theorem Ca.drew (h : Ca P c L W) : Ca P c L W.drew := h.below (below_drew1 (Below.refl _ _))
theorem Ca.alloc (h : Ca P c L W) (o : Obj) : Ca P c L (W.alloc o) := h.below (below_alloc (Below.refl _ _) o)
end
set_option maxHeartbeats 8000000 in
set_option maxRecDepth 100000 in
theorem cal_new {P : Nat → Prop} {W : World} (hP : ∀ k, W.heap.size ≤ k → P k) :
    Calls Tryd.prog 11 #[] W fun e W' => ∃ c : Nat, e = .returned (.pointer (some ⟨c, 0, none⟩)) ∧ Ca P c [] W' ∧ Off P W W' ∧ W.heap.size ≤ c := by
  have HN := Aside0.mk (hs_new hP)
  have HP' := Aside0.mk hP
  clear hP
  go_enter Tryd.func11, Tryd.ntmps11
  go_wp2_with (first
    | (go_at_call 22; refine HN.out.mono ?_; rintro e w1 ⟨g, rfl, hh, ho⟩; have H1 := Aside0.mk hh; have H2 := Aside0.mk ho; clear hh ho)
    | go_in)
  go_ret
  have hsz := H2.out.2.2.2.1
  refine ⟨w1.heap.size, rfl, ⟨g, heap_alloc_new _ _, HP'.out _ hsz, ?_⟩, H2.out.alloc _, hsz⟩
  exact (H1.out.re (Q := fun k => P k ∧ k ≠ w1.heap.size) (fun k hk hp => ⟨hp, by omega⟩)).off (fun k hk _ => heap_alloc_old _ _ hk)
set_option maxHeartbeats 8000000 in
set_option maxRecDepth 100000 in
theorem cal_next {P : Nat → Prop} {W : World} {c : Nat} {L : List En} (h : Ca P c L W) :
    Calls Tryd.prog 21 #[.pointer (some ⟨c, 0, none⟩)] W fun e W' => e = .returned (.tuple #[.int .i64 (first3 L).2.1, .bool (first3 L).2.2]) ∧ ∃ n, W' = W.drewN n := by
  obtain ⟨g, hb, _, hs⟩ := h
  have c0 : W.cell? ⟨c, 0, none⟩ = some (.pointer (some ⟨g, 0, none⟩)) := cell_of_row W c 0 _ _ (0, 0) hb
  have HM := Aside0.mk (hs_min hs)
  have huP := Tryd.underlying36
  have huC := Tryd.underlying79
  have huH := Tryd.underlying58
  clear hb hs
  unfold kv at *
  go_enter Tryd.func21, Tryd.ntmps21
  go_wp2_with (first
    | (go_at_call 34; refine HM.out.mono ?_; rintro e w1 ⟨rfl, n, rfl⟩)
    | go_in)
  go_ret2
  exact ⟨rfl, _, rfl⟩
set_option maxHeartbeats 8000000 in
set_option maxRecDepth 100000 in
theorem cal_len {P : Nat → Prop} {W : World} {c : Nat} {L : List En} (h : Ca P c L W) :
    Calls Tryd.prog 20 #[.pointer (some ⟨c, 0, none⟩)] W fun e W' => e = .returned (.int .i64 (L.length : Int)) ∧ W' = W := by
  obtain ⟨g, hb, _, hs⟩ := h
  have c0 : W.cell? ⟨c, 0, none⟩ = some (.pointer (some ⟨g, 0, none⟩)) := cell_of_row W c 0 _ _ (0, 0) hb
  have HM := Aside0.mk (hs_len hs)
  have huP := Tryd.underlying36
  have huC := Tryd.underlying79
  have huH := Tryd.underlying58
  clear hb hs
  go_enter Tryd.func20, Tryd.ntmps20
  go_wp2_with (first
    | (go_at_call 35; refine HM.out.mono ?_; rintro e w1 ⟨rfl, hw⟩; rw [hw]; clear hw)
    | go_in)
  go_ret
  exact ⟨rfl, rfl⟩
set_option maxHeartbeats 8000000 in
set_option maxRecDepth 100000 in
theorem cal_put {P : Nat → Prop} {W : World} {c : Nat} {L : List En} (h : Ca P c L W) (hP : ∀ k, W.heap.size ≤ k → P k) (hl : L.length < 1000000) (id a : Int) (h0 : 0 ≤ id) (h1 : id ≤ 9223372036854775807) (h2 : 0 ≤ a) :
    Calls Tryd.prog 13 #[.pointer (some ⟨c, 0, none⟩), .int .i64 id, .int .i64 a] W fun e W' => e = .returned .nilIface ∧ Ca P c (ins (id, a) (del id L)) W' ∧ Off P W W' := by
  have hclt := h.lt
  obtain ⟨g, hb, hPc, hs⟩ := h
  have c0 : W.cell? ⟨c, 0, none⟩ = some (.pointer (some ⟨g, 0, none⟩)) := cell_of_row W c 0 _ _ (0, 0) hb
  have huP := Tryd.underlying36
  have huC := Tryd.underlying79
  have huH := Tryd.underlying58
  have d1 : decide (id < 0) = false := decide_eq_false (by omega)
  have d2 : decide (a < 0) = false := decide_eq_false (by omega)
  have HM := Aside0.mk (hs_move hs id a ⟨by omega, h1⟩)
  have HU := Aside0.mk (hs_push hs (fun k hk => ⟨hP k hk, by omega⟩) hl (id, a) ⟨by show -9223372036854775808 ≤ id; omega, h1⟩)
  have HFIN := Aside0.mk (show ∀ (V : World) (M : List En), HS (fun k => P k ∧ k ≠ c) g M V → Off (fun k => P k ∧ k ≠ c) W V → Ca P c M V ∧ Off P W V from fun V M hm ho =>
    ⟨⟨g, (ho.2.2.2.2 c hclt (fun hp => hp.2 rfl)).trans hb, hPc, hm⟩, ho.re (fun k hk => hk.1)⟩)
  by_cases hin : id ∈ L.map (·.1)
  · have HIN := Aside0.mk hin
    clear hb hs hPc hP hl h0 h1 h2 hclt hin
    unfold kv at *
    go_enter Tryd.func13, Tryd.ntmps13
    go_wp2_with (first
      | (go_at_call 26; refine HM.out.mono ?_; intro e w1 hh; obtain ⟨rfl, hm, ho⟩ := hh.2 HIN.out; have HF := Aside0.mk (HFIN.out _ _ hm ho); clear hh hm ho)
      | go_in)
    go_ret
    exact ⟨rfl, HF.out⟩
  · have HIN := Aside0.mk hin
    have HD := Aside0.mk (del_none hin)
    clear hb hs hPc hP hl h0 h1 h2 hclt hin
    unfold kv at *
    go_enter Tryd.func13, Tryd.ntmps13
    go_wp2_with (first
      | (go_at_call 26; refine HM.out.mono ?_; intro e w1 hh; obtain ⟨rfl, hw⟩ := hh.1 HIN.out; rw [hw]; clear hh hw)
      | (go_at_call 24; refine HU.out.mono ?_; intro e w2 hh; obtain ⟨rfl, hm, ho⟩ := hh.2 HIN.out; have HF := Aside0.mk (HFIN.out _ _ hm ho); clear hh hm ho)
      | go_in)
    go_ret
    exact ⟨rfl, by rw [HD.out]; exact HF.out⟩
end Go.Proofs.YtfmchkplnglepaaDoor.HpI
