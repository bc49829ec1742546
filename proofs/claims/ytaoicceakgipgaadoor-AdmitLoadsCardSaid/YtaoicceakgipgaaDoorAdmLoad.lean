/- A book of a list of claims: what the program's Load and the reference's answer. No conditions. -/
import Derived.Test.YtaoicceakgipgaaDoorAdmRel
import Derived.Test.YtaoicceakgipgaaDoorQx15
import Derived.Test.YtaoicceakgipgaaDoorQx14
namespace Go.Proofs.YtaoicceakgipgaaDoor.Pure
open Go Go.RowKit Tithe Go.Proofs.YtaoicceakgipgaaDoor.Q Go.Proofs.YtaoicceakgipgaaDoorW.PrintWords Go.Proofs.YtaoicceakgipgaaDoorW.PrintLast Go.Proofs.YtaoicceakgipgaaDoorW.PrintMore
set_option linter.unusedVariables false
set_option linter.unusedSimpArgs false
theorem nx2 {α : Type} (P : List α) (c : α) (h : P.length ≤ 9223372036854775806) : wrap64 ((P.length : Int) + 1) = ((P ++ [c]).length : Int) := by
  rw [List.length_append, List.length_singleton]; exact w1 _ (by omega)
/-- may a claim be? -/
def Vld (c : S28) : Prop := 0 ≤ c.f0 ∧ c.f0 < 64 ∧ okc (cv c)
instance (c : S28) : Decidable (Vld c) := by unfold Vld okc; infer_instance
theorem valid_eq (c : S28) : admit_Claim_valid.f c.f0 c.f1 c.f2 c.f3 = some (decide (Vld c)) := by
  unfold admit_Claim_valid.f
  by_cases h0 : c.f0 ≥ 0
  · by_cases h1 : c.f0 < 64
    · by_cases h2 : c.f1 ≥ 1
      · by_cases h3 : c.f1 ≤ 1048576
        · by_cases h4 : c.f2 ≥ 0
          · rw [if_pos h0, if_pos h1, if_pos h2, if_pos h3, if_pos h4]
            congr 1
            exact decide_eq_decide.2 ⟨fun h => ⟨h0, h1, h2, h3, h4, h⟩, fun h => h.2.2.2.2.2⟩
          · rw [if_pos h0, if_pos h1, if_pos h2, if_pos h3, if_neg h4, decide_eq_false (fun h => h4 h.2.2.2.2.1)]
        · rw [if_pos h0, if_pos h1, if_pos h2, if_neg h3, decide_eq_false (fun h => h3 h.2.2.2.1)]
      · rw [if_pos h0, if_pos h1, if_neg h2, decide_eq_false (fun h => h2 h.2.2.1)]
    · rw [if_pos h0, if_neg h1, decide_eq_false (fun h => h1 h.2.1)]
  · rw [if_neg h0, decide_eq_false (fun h => h0 h.1)]
/-- Load, from a place on: the error's number (0: none) and the book -/
def ldB : List S28 → List S28 → Int → Int × List S28
  | [], B, _ => if bkSum B > 1048576 then (270, B) else (0, B)
  | c :: r, B, last => if Vld c then (if c.f0 ≤ last then (270, B) else ldB r (bkSet B c.f0 c) c.f0) else (1, B)
/-- a book of the claims so far -/
def Sofar (P : List S28) (B : List S28) (last : Int) : Prop := OkB B ∧ bk B = P.map cv ∧ (∀ x ∈ bk B, x.f0 ≤ last) ∧ ((P = [] ∧ last = -1) ∨ ∃ P0 c, P = P0 ++ [c] ∧ c.f0 = last)
theorem sofar_new : Sofar [] bkNew (-1) := by
  have h := new_inv
  refine ⟨h.1, h.2.1.symm, ?_, .inl ⟨rfl, rfl⟩⟩
  rw [← h.2.1]; intro x hx; cases hx
theorem sofar_len {P B : List S28} {last : Int} (h : Sofar P B last) : P.length ≤ 64 := by
  have := bk_len h.1
  rw [h.2.1, List.length_map] at this; exact this
theorem sofar_next {P B : List S28} {last : Int} (h : Sofar P B last) {c : S28} (hv : Vld c) (hl : ¬ c.f0 ≤ last) : Sofar (P ++ [c]) (bkSet B c.f0 c) c.f0 := by
  obtain ⟨L1, L2, a1, a2, a3, e, a4⟩ := slot_split h.1 hv.1 hv.2.1
  obtain ⟨e2, o2⟩ := a4 c
  have hz := okc_nz hv.2.2
  rw [hz] at e2
  simp only [Bool.false_eq_true, if_false, List.singleton_append] at e2
  have hL2 : L2 = [] := by
    cases L2 with
    | nil => rfl
    | cons x r =>
      have h1 := h.2.2.1 x (by rw [e]; simp)
      have h2 := (a2 x (List.mem_cons_self ..)).1
      omega
  subst hL2
  have hm : clz (bkGet B c.f0) = true := by
    cases hg : clz (bkGet B c.f0) with
    | true => rfl
    | false =>
      have hok := h.1.2 c.f0.toNat (by have := hv.1; have := hv.2.1; omega) hg
      rw [hg] at e
      have h1 := h.2.2.1 (cv (bkGet B c.f0)) (by rw [e]; simp)
      have h2 : (bkGet B c.f0).f0 = c.f0 := by
        have := hok.1; have := hv.1; unfold bkGet; omega
      have h3 : (cv (bkGet B c.f0)).f0 = c.f0 := h2
      omega
  rw [hm] at e
  simp only [if_true, List.nil_append, List.append_nil] at e
  refine ⟨o2 (.inr ⟨rfl, hv.2.2⟩), ?_, ?_, .inr ⟨P, c, rfl, rfl⟩⟩
  · rw [e2, ← e, h.2.1]; simp
  · intro x hx
    rw [e2] at hx
    rcases List.mem_append.1 hx with h1 | h1
    · have := (a1 x h1).1; omega
    · rw [List.mem_singleton.1 h1]; exact Int.le_refl _
theorem rd_map (P : List S28) (c : S28) (Q : List S28) : rd_T51 ((P ++ c :: Q).map cv) (P.length : Int) = cv c := by
  have := rd_mid (P.map cv) (cv c) (Q.map cv)
  simpa using this
theorem ref_ld : ∀ (Q P B : List S28) (last : Int), Sofar P B last →
    Evt (fun k => titheref08_Load.l0 k ((P ++ Q).map cv) (P.length : Int)) (if (ldB Q B last).1 = 0 then (P ++ Q).map cv else [], (ldB Q B last).1) ∧
    ((ldB Q B last).1 = 0 → Inv (ldB Q B last).2 ((P ++ Q).map cv))
  | [], P, B, last, h => by
    have hl := sofar_len h
    have hss := bkSum_eq h.1
    have he : (P ++ []).map cv = bk B := by rw [h.2.1]; simp
    have sm := Sum_evt (l := bk B) (by have := bk_len h.1; omega) (fun c hc => (in_bk h.1 hc).2.2)
    have hlen : ((P.length : Nat) : Int) = ((bk B).length : Int) := by rw [h.2.1, List.length_map]
    rw [he]
    unfold ldB
    by_cases hq : bkSum B > 1048576
    · rw [if_pos hq]
      refine ⟨Evt.succ ?_, fun h => by cases h⟩
      simp only [titheref08_Load.l0]
      rw [hss] at hq
      exact Evt.ifn (by omega) (Evt.bind sm (Evt.ifp hq (Evt.pure fun _ => rfl)))
    · rw [if_neg hq]
      rw [hss] at hq
      refine ⟨Evt.succ ?_, fun _ => ⟨h.1, rfl, by omega⟩⟩
      simp only [titheref08_Load.l0]
      exact Evt.ifn (by omega) (Evt.bind sm (Evt.ifn hq (Evt.call (twin_ok (by have := bk_len h.1; omega)) (Evt.pure fun _ => rfl))))
  | c :: Q, P, B, last, h => by
    have hl := sofar_len h
    have hr := rd_map P c Q
    have hc : ((P ++ c :: Q).map cv).length = P.length + (Q.length + 1) := by simp
    have jt : ∀ {a b d : Int} {e : Bool}, Evt (fun k => titheref08_Load.j1 k ((P ++ c :: Q).map cv) (P.length : Int) true a b d e) ([], 1) := by
      intro a b d e
      refine Evt.succ ?_
      simp only [titheref08_Load.j1]
      exact Evt.ifp (by simp) (Evt.pure fun _ => rfl)
    unfold ldB
    by_cases hv : Vld c
    · rw [if_pos hv]
      obtain ⟨v0, v1, v2, v3, v4, v5⟩ := hv
      have v2' : 1 ≤ c.f1 := v2
      have v3' : c.f1 ≤ 1048576 := v3
      have v4' : 0 ≤ c.f2 := v4
      have v5' : c.f2 ≤ 1048576 := v5
      have hsh : shareB c.f1 = true := by unfold shareB; rw [decide_eq_true (show c.f1 ≥ 1 from v2'), decide_eq_true v3']; rfl
      have head : ∀ {r : List S51 × Int}, Evt (fun k => titheref08_Load.j1 k ((P ++ c :: Q).map cv) (P.length : Int) false c.f0 c.f1 c.f2 c.f3) r → Evt (fun k => titheref08_Load.l0 k ((P ++ c :: Q).map cv) (P.length : Int)) r := by
        intro r hj
        refine Evt.succ ?_
        simp only [titheref08_Load.l0]
        rw [hr]
        refine Evt.ifp (by omega) (Evt.ifp (by omega) (Evt.ifn (show ¬ c.f0 < 0 by omega) (Evt.ifn (show ¬ c.f0 ≥ 64 by omega) (Evt.call share_ok (Evt.ifp hsh (Evt.ifn (show ¬ c.f2 < 0 by omega) ?_))))))
        rw [show decide ((cv c).f2 > 1048576) = false from decide_eq_false (show ¬ c.f2 > 1048576 by omega)]
        exact hj
      have ih := fun (hn : ¬ c.f0 ≤ last) => ref_ld Q (P ++ [c]) (bkSet B c.f0 c) c.f0 (sofar_next h ⟨v0, v1, v2, v3, v4, v5⟩ hn)
      have eapp : (P ++ [c]) ++ Q = P ++ c :: Q := by simp
      rw [eapp] at ih
      have hn1 := nx P c (by omega)
      rcases h.2.2.2 with ⟨rfl, rfl⟩ | ⟨P0, c0, rfl, hc0⟩
      · have hn : ¬ c.f0 ≤ -1 := by omega
        rw [if_neg hn]
        refine ⟨head (Evt.succ ?_), (ih hn).2⟩
        simp only [titheref08_Load.j1]
        rw [hn1]
        exact Evt.ifn (by simp) (Evt.ifn (by simp) (ih hn).1)
      · have hw : wrap64 (((P0 ++ [c0]).length : Int) - 1) = (P0.length : Int) := by
          rw [List.length_append, List.length_singleton] at hl ⊢
          rw [w64 (by omega) (by omega)]; omega
        have hr0 : rd_T51 (((P0 ++ [c0]) ++ c :: Q).map cv) (P0.length : Int) = cv c0 := by
          have := rd_map P0 c0 (c :: Q)
          simpa using this
        have hlen0 : (P0 ++ [c0]).length = P0.length + 1 := by simp
        by_cases hn : c.f0 ≤ last
        · rw [if_pos hn]
          refine ⟨head (Evt.succ ?_), fun h => by cases h⟩
          simp only [titheref08_Load.j1]
          rw [hw, hr0]
          exact Evt.ifn (by simp) (Evt.ifp (by omega) (Evt.ifp (by omega) (Evt.ifp (by omega) (Evt.ifp (show c.f0 ≤ c0.f0 by omega) (Evt.pure fun _ => rfl)))))
        · rw [if_neg hn]
          refine ⟨head (Evt.succ ?_), (ih hn).2⟩
          simp only [titheref08_Load.j1]
          rw [hw, hr0, hn1]
          exact Evt.ifn (by simp) (Evt.ifp (by omega) (Evt.ifp (by omega) (Evt.ifp (by omega) (Evt.ifn (show ¬ c.f0 ≤ c0.f0 by omega) (ih hn).1))))
    · rw [if_neg hv]
      refine ⟨Evt.succ ?_, fun h => by cases h⟩
      simp only [titheref08_Load.l0]
      rw [hr]
      refine Evt.ifp (by omega) (Evt.ifp (by omega) ?_)
      by_cases g0 : c.f0 < 0
      · exact Evt.ifp g0 jt
      · refine Evt.ifn g0 ?_
        by_cases g1 : c.f0 ≥ 64
        · exact Evt.ifp g1 jt
        · refine Evt.ifn g1 (Evt.call share_ok ?_)
          cases hs : shareB (cv c).f1 with
          | false => exact Evt.ifn (by decide) jt
          | true =>
            refine Evt.ifp rfl ?_
            by_cases g2 : c.f2 < 0
            · exact Evt.ifp g2 jt
            · refine Evt.ifn g2 ?_
              have g3 : c.f2 > 1048576 := by
                have ⟨s0, s1⟩ := shareB_t hs
                rcases Int.lt_or_le 1048576 c.f2 with g | g
                · exact g
                · exact absurd ⟨by omega, by omega, s0, s1, show 0 ≤ c.f2 by omega, g⟩ hv
              rw [show decide ((cv c).f2 > 1048576) = true from decide_eq_true g3]
              exact jt
theorem ldB_len : ∀ (Q B : List S28) (last : Int), B.length = 64 → (ldB Q B last).2.length = 64
  | [], B, last, h => by unfold ldB; split <;> exact h
  | c :: Q, B, last, h => by
    unfold ldB
    split
    · split
      · exact h
      · exact ldB_len Q _ _ (by unfold bkSet; rw [List.length_set]; exact h)
    · exact h
end Go.Proofs.YtaoicceakgipgaaDoor.Pure
