/- ResponseSound in plain Lean: the law answers true. No conditions beyond the statement's. -/
import Derived.Test.YtdonlmbhamcjdaaRRRSndV
import Derived.Test.YtdonlmbhamcjdaaRRRSndR
import Derived.Test.YtdonlmbhamcjdaaRRRSndW
namespace Go.Proofs.YtdonlmbhamcjdaaRRR.Pure
open Go Go.RowKit Tithe Go.Proofs.YtdonlmbhamcjdaaRRR.Ply Go.Proofs.YtdonlmbhamcjdaaRRR.J Go.Proofs.YtdonlmbhamcjdaaRRRW.PrintWords Go.Proofs.YtdonlmbhamcjdaaRRRW.PrintLast Go.Proofs.YtdonlmbhamcjdaaRRRW.PrintMore
set_option linter.unusedVariables false
theorem ord_nat (l : List S43) : (ordl l).map Int.toNat = ol l := by
  rw [ordl_eq, List.map_map]
  have : (Int.toNat ∘ fun j : Nat => (j : Int)) = id := by funext j; simp
  rw [this, List.map_id]
theorem okP_ok {l : List S43} (st : List Int) (h8 : l.length ≤ 8) (hok : ∀ x ∈ l, okp x) : okP l st (ordl l) = true := by
  unfold okP
  simp only [Bool.and_eq_true, decide_eq_true_eq, List.all_eq_true]
  refine ⟨⟨by omega, fun x hx => ?_⟩, fun i hi => ?_⟩
  · have := hok x hx
    unfold okp at this
    omega
  · rw [ordl_eq] at hi
    obtain ⟨j, hj, rfl⟩ := List.mem_map.1 hi
    have := ol_mem.1 hj
    omega
theorem okp_get {l : List S43} (hok : ∀ x ∈ l, okp x) {i : Nat} (hi : i < l.length) : okp (rd_T43 l (i : Int)) := by
  rw [rd_get hi]; exact hok _ (List.getElem_mem hi)
theorem lev_levN {l : List S43} {i : Nat} {A B : List Nat} (h : ol l = A ++ i :: B) (hn : i ∉ A) (t : Int) : lev l i t = levN l A i t := by
  unfold lev levN ahl rs
  rw [h, take_split hn, List.map_map]
  rfl
/-- what is known of each entry -/
theorem ents {l : List S43} {L : List Int} {row : List Bool} {q p : Int} (hok : ∀ x ∈ l, okp x)
    (hL : ∀ j : Nat, j < l.length → 1 ≤ rd L (j : Int) ∧ rd L (j : Int) ≤ (rd_T43 l (j : Int)).f2 ∧ lev l j (rd L (j : Int)) ≤ lst q p (rd L (j : Int)))
    (hrow : ∀ s d : Nat, s + d ≤ row.length → lst q p (d : Int) ≤ sp row s d) :
    ∀ i, i < l.length → ∃ A B, ol l = (A ++ [i]) ++ B ∧ Ent l row A B i (rd L (i : Int)).toNat ∧ rd L (i : Int) ≤ (rd_T43 l (i : Int)).f2 := by
  intro i hi
  obtain ⟨A, B, h, _, _, hn⟩ := ol_split hi
  obtain ⟨h1, h2, h3⟩ := hL i hi
  have ho := okp_get hok hi
  unfold okp at ho
  have e : ol l = (A ++ [i]) ++ B := by rw [h]; simp
  have et : ((rd L (i : Int)).toNat : Int) = rd L (i : Int) := Int.toNat_of_nonneg (by omega)
  refine ⟨A, B, e, ⟨by rw [← e]; exact ol_nodup l, fun j hj => ol_mem.1 (by rw [e]; exact List.mem_append_left _ hj), by omega, by omega, fun s hs => ?_⟩, h2⟩
  have := hrow s _ hs
  rw [et] at this ⊢
  rw [← lev_levN h hn]
  omega
theorem sound_l1 {l : List S43} {st L : List Int} {row : List Bool} {q p n : Int} (ws y1 y2 y3 : List Int) (v : Int) (h8 : l.length ≤ 8) (hok : ∀ x ∈ l, okp x) (hlen : st.length = l.length) (hst : ∀ j : Nat, j < st.length → 0 ≤ rd st (j : Int) ∧ rd st (j : Int) ≤ 1000)
    (hL0 : L.length = l.length) (hL : ∀ j : Nat, j < l.length → 1 ≤ rd L (j : Int) ∧ rd L (j : Int) ≤ (rd_T43 l (j : Int)).f2 ∧ lev l j (rd L (j : Int)) ≤ lst q p (rd L (j : Int)))
    (hn : (row.length : Int) = n) (h4 : row.length ≤ 4096) (hrow : ∀ s d : Nat, s + d ≤ row.length → lst q p (d : Int) ≤ sp row s d) :
    Evt (fun k => tithelaw22_ResponseSound.l1 k l st L row (playL l st (ol l) row) (ordl l) y1 y2 y3 v q p ws n) true := by
  have hC : ∀ k, k < l.length → 1 ≤ (rd_T43 l (k : Int)).f0 ∧ 1 ≤ (rd_T43 l (k : Int)).f1 := by
    intro k hk
    have := okp_get hok hk
    unfold okp at this
    omega
  have hM : okM l st (ol l) L row 0 m0 = true := okM_all hC (ents hok hL hrow) row.length 0 (by omega)
  have hpl := play_mo (fun k hk => (hC k hk).2) (fun i hi => ol_mem.1 hi) hM
  unfold tithelaw22_ResponseSound.l1
  rw [ord_nat]
  refine Evt.ifp ?_ ?_
  · simp only [Bool.and_eq_true, decide_eq_true_eq]
    refine ⟨⟨⟨⟨okP_ok st h8 hok, ?_⟩, hn⟩, h4⟩, hM⟩
    unfold okT
    simp only [Bool.and_eq_true, decide_eq_true_eq, List.all_eq_true]
    refine ⟨⟨fun s hs => ?_, hlen⟩, hL0⟩
    obtain ⟨k, hk, rfl⟩ := List.getElem_of_mem hs
    have := hst k hk
    rw [show rd st (k : Int) = st[k] by simp [rd, List.getD, hk]] at this
    omega
  · rw [hpl]
    exact Evt.bind (ints22 _ (by unfold moL; simp; omega)) (Evt.ifp (by first | rfl | trivial) works22_evt)
theorem sound_evt (l : List S43) (st : List Int) (q p : Int) (ws : List Int) (n : Int) (hl : l.length < 4398046511104) (hs : st.length ≤ 140737488351232) : Evt (fun k => tithelaw22_ResponseSound.f k l st q p ws n) true := by
  have wk : Evt (fun k => (tithelaw22_works.f k).bind fun t => some t) true := Evt.bind works22_evt (Evt.pure fun _ => rfl)
  have j0t : Evt (fun k => tithelaw22_ResponseSound.j0 k l st true q p ws n) true := by
    refine Evt.succ ?_
    simp only [tithelaw22_ResponseSound.j0]
    exact Evt.ifp (by first | rfl | trivial) wk
  unfold tithelaw22_ResponseSound.f
  refine Evt.bind (refValid_evt l (by omega)) ?_
  by_cases hv : vcode l = 0
  case neg => exact Evt.ifn hv j0t
  refine Evt.ifp hv ?_
  obtain ⟨h8, hok⟩ := vcode_ok.1 hv
  by_cases hlen : st.length = l.length
  case neg => exact Evt.ifn (by omega) j0t
  refine Evt.ifp (by omega) ?_
  by_cases c1 : q < 1
  · exact Evt.ifp c1 j0t
  refine Evt.ifn c1 ?_
  by_cases c2 : p > 200
  · exact Evt.ifp c2 j0t
  refine Evt.ifn c2 ?_
  by_cases c3 : q > p
  · exact Evt.ifp c3 j0t
  refine Evt.ifn c3 ?_
  by_cases c4 : n < 0
  · exact Evt.ifp c4 j0t
  refine Evt.ifn c4 ?_
  by_cases c5 : n > 1500
  · rw [decide_eq_true c5]; exact j0t
  rw [decide_eq_false c5]
  refine Evt.succ ?_
  simp only [tithelaw22_ResponseSound.j0]
  refine Evt.ifn (by simp) ?_
  have key : ∀ (d i : Nat), i + d = st.length → (∀ j : Nat, j < i → 0 ≤ rd st (j : Int) ∧ rd st (j : Int) ≤ 1000) → Evt (fun k => tithelaw22_ResponseSound.l0 k l st (i : Int) q p ws n) true := by
    intro d
    induction d with
    | zero =>
      intro i hi hst
      have hst' : ∀ j : Nat, j < st.length → 0 ≤ rd st (j : Int) ∧ rd st (j : Int) ≤ 1000 := fun j hj => hst j (by omega)
      refine Evt.succ ?_
      simp only [tithelaw22_ResponseSound.l0]
      refine Evt.ifn (by omega) (Evt.call (twin22 l hl) ?_)
      obtain ⟨L, e, a1, a2⟩ := All_ok (q := q) (p := p) h8 hok (by omega) (by omega) (by omega)
      refine Evt.bind a1 ?_
      cases e with
      | some e => exact Evt.ifn (by simp) wk
      | none =>
        obtain ⟨hL0, hL⟩ := a2 rfl
        obtain ⟨row, r1, r2, r3⟩ := ticks_evt (q := q) (p := p) (n := n) ws (by omega) (by omega) (by omega) (by omega) (by omega)
        have hplay : Evt (fun k => response_Play.f k l st row) (playL l st (ol l) row, none) := by
          unfold response_Play.f
          refine Evt.bind (check0_evt (by omega)) ?_
          have hver : verr l = none := by unfold verr; rw [if_pos hv]
          have hb : badS st = false := badS_some fun k hk => by have := hst' k hk; omega
          rw [hver, hb]
          have ho := Order_evt (l := l) (by omega)
          rw [if_pos hv] at ho
          refine Evt.ifn (by simp) (Evt.ifn (by omega) (Evt.ifn (by simp) (Evt.bind ho (Evt.ifp (okP_ok st h8 hok) (Evt.pure fun _ => ?_)))))
          rw [ord_nat]
        have hord := refOrder_evt h8 hv
        have hpl : (playL l st (ol l) row).length = l.length := by unfold playL; simp
        refine Evt.ifp rfl (Evt.bind r1 (Evt.call (twin22 l hl) (Evt.bind hplay (Evt.bind hord (Evt.ifp rfl (Evt.ifp rfl (Evt.ifp (show (L.length : Int) = (l.length : Int) by omega) ?_)))))))
        rw [show (((playL l st (ol l) row).length : Int) != (l.length : Int)) = false by rw [hpl]; simp]
        refine Evt.succ ?_
        simp only [tithelaw22_ResponseSound.j2]
        exact Evt.ifn (by simp) (Evt.ifp (by omega) (Evt.ifp (by omega) (sound_l1 _ _ _ _ _ h8 hok hlen hst' hL0 hL r2 (by omega) r3)))
    | succ d ih =>
      intro i hi hst
      refine Evt.succ ?_
      simp only [tithelaw22_ResponseSound.l0]
      refine Evt.ifp (by omega) (Evt.ifp (by omega) ?_)
      by_cases d1 : rd st (i : Int) < 0
      · exact Evt.ifp d1 wk
      refine Evt.ifn d1 ?_
      by_cases d2 : rd st (i : Int) > 1000
      · exact Evt.ifp d2 wk
      refine Evt.ifn d2 ?_
      rw [w1 i (by omega)]
      refine ih (i + 1) (by omega) fun j hj => ?_
      by_cases e : j = i
      · subst e; omega
      · exact hst j (by omega)
  exact key st.length 0 (by omega) (fun j hj => absurd hj (by omega))
end Go.Proofs.YtdonlmbhamcjdaaRRR.Pure
