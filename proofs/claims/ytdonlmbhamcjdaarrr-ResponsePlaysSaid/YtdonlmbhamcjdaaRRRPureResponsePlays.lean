/- ResponsePlays in plain Lean: the play with queues and that of the document, tick by tick, are one. No conditions beyond the statement's. -/
import Derived.Test.YtdonlmbhamcjdaaRRRPlB
import Derived.Test.YtdonlmbhamcjdaaRRRPlayW
import Derived.Test.YtdonlmbhamcjdaaRRRHx14
import Derived.Test.YtdonlmbhamcjdaaRRRDefResponsePlays
namespace Go.Proofs.YtdonlmbhamcjdaaRRR.Pure
open Go Go.RowKit Tithe Go.Proofs.YtdonlmbhamcjdaaRRR.Ply Go.Proofs.YtdonlmbhamcjdaaRRR.H Go.Proofs.YtdonlmbhamcjdaaRRRW.PrintWords Go.Proofs.YtdonlmbhamcjdaaRRRW.PrintLast Go.Proofs.YtdonlmbhamcjdaaRRRW.PrintMore
set_option linter.unusedVariables false

/-- the releases from f on, e apart, ahead of t -/
inductive Que (e : Int) : Int → Int → List Int → Prop
  | none {f t : Int} (h : t ≤ f) : Que e f t []
  | more {f t : Int} {q : List Int} (h : f < t) (hq : Que e (f + e) t q) : Que e f t (f :: q)
theorem Que.rel {e f t : Int} {q : List Int} (h : Que e f t q) (he : 1 ≤ e) (hf : f ≤ t) (hm : (t - f) % e = 0) : Que e f (t + 1) (q ++ [t]) := by
  induction h with
  | @none f t h =>
    have : f = t := by omega
    subst this
    exact .more (by omega) (.none (by omega))
  | @more f t q h hq ih =>
    have h1 : (t - (f + e)) % e = 0 := by
      rw [show t - (f + e) = (t - f) - e by omega, Int.sub_emod_right]; exact hm
    have h2 : f + e ≤ t := by
      have := Int.emod_add_mul_ediv (t - f) e
      rw [hm] at this
      have h3 : 1 ≤ (t - f) / e := by
        have h4 : ¬ (t - f) / e ≤ 0 := by
          intro h5
          have := Int.mul_le_mul_of_nonneg_left h5 (show 0 ≤ e by omega)
          omega
        omega
      have := Int.mul_le_mul_of_nonneg_left h3 (show 0 ≤ e by omega)
      omega
    exact .more (by omega) (ih h2 h1)
theorem Que.not {e f t : Int} {q : List Int} (h : Que e f t q) (hn : ¬ (f ≤ t ∧ (t - f) % e = 0)) : Que e f (t + 1) q := by
  induction h with
  | @none f t h =>
    refine .none ?_
    have : f ≠ t := by
      rintro rfl
      exact hn ⟨Int.le_refl _, by simp⟩
    omega
  | @more f t q h hq ih =>
    refine .more (by omega) (ih ?_)
    rintro ⟨h1, h2⟩
    refine hn ⟨by omega, ?_⟩
    rw [show t - (f + e) = (t - f) - e by omega, Int.sub_emod_right] at h2
    exact h2
theorem Que.head {e f t : Int} {q : List Int} (h : Que e f t q) : (q = [] ↔ t ≤ f) ∧ ∀ a r, q = a :: r → a = f ∧ Que e (f + e) t r := by
  cases h with
  | none h => exact ⟨⟨fun _ => h, fun _ => rfl⟩, fun a r hh => (by cases hh)⟩
  | more h hq => exact ⟨⟨fun hh => (by cases hh), fun hh => (by omega)⟩, fun a r hh => (by cases hh; exact ⟨rfl, hq⟩)⟩
theorem mod_shift {e s f t : Int} (h : (f - s) % e = 0) : (t - s) % e = 0 ↔ (t - f) % e = 0 := by
  have e1 : t - s = (t - f) + (f - s) := by omega
  constructor
  · intro h1
    have : (t - f) = (t - s) - (f - s) := by omega
    rw [this, Int.sub_emod, h1, h]; simp
  · intro h1
    rw [e1, Int.add_emod, h1, h]; simp
/-- the program's state and the document's, at a time -/
structure Rl (l : List S43) (st : List Int) (t : Int) (x : St) (lg fs dn : List Int) : Prop where
  l1 : lg.length = l.length
  l2 : fs.length = l.length
  l3 : dn.length = l.length
  out : ∀ i : Nat, i < l.length → x.out i = rd lg (i : Int)
  fst : ∀ i : Nat, i < l.length → rd st (i : Int) ≤ rd fs (i : Int) ∧ (rd fs (i : Int) - rd st (i : Int)) % (rd_T43 l (i : Int)).f0 = 0 ∧ rd fs (i : Int) ≤ 1073741824 ∧ (rd fs (i : Int) = rd st (i : Int) ∨ rd fs (i : Int) - (rd_T43 l (i : Int)).f0 < t)
  que : ∀ i : Nat, i < l.length → Que (rd_T43 l (i : Int)).f0 (rd fs (i : Int)) t (x.qs i)
  lft : ∀ i : Nat, i < l.length → 0 ≤ rd dn (i : Int) ∧ rd dn (i : Int) < (rd_T43 l (i : Int)).f1 ∧ (x.qs i = [] → rd dn (i : Int) = 0) ∧ (x.qs i ≠ [] → x.ls i = (rd_T43 l (i : Int)).f1 - rd dn (i : Int))
theorem rd_set {l : List Int} {i j : Nat} (v : Int) (hj : j < l.length) : rd (l.set i v) (j : Int) = if i = j then v else rd l (j : Int) := by
  simp only [rd, Int.toNat_natCast, List.getD, List.getElem?_set]
  by_cases e : i = j
  · subst e; simp [hj]
  · simp [e]
theorem okp_get {l : List S43} (hok : ∀ x ∈ l, okp x) {i : Nat} (hi : i < l.length) : okp (rd_T43 l (i : Int)) := by
  rw [rd_get hi]; exact hok _ (List.getElem_mem hi)
theorem mul_ge {e u : Int} (he : 1 ≤ e) (hu : 0 < u) (h : u % e = 0) : e ≤ u := Int.le_of_dvd hu (Int.dvd_of_emod_eq_zero h)
theorem Rl.rc {l : List S43} {st : List Int} {t : Int} {x : St} {lg fs dn : List Int} (h : Rl l st t x lg fs dn) (hok : ∀ x ∈ l, okp x) {i : Nat} (hi : i < l.length) : rc l st t i = true ↔ (rd fs (i : Int) ≤ t ∧ (t - rd fs (i : Int)) % (rd_T43 l (i : Int)).f0 = 0) := by
  have hf := h.fst i hi
  have ho := okp_get hok hi
  unfold okp at ho
  have hm := mod_shift (t := t) hf.2.1
  unfold H.rc
  simp only [Bool.and_eq_true, decide_eq_true_eq]
  constructor
  · rintro ⟨h1, h2⟩
    refine ⟨?_, hm.1 h2⟩
    apply Classical.byContradiction
    intro h3
    rcases hf.2.2.2 with h4 | h4
    · omega
    · have h5 := hm.1 h2
      have h6 : (rd fs (i : Int) - t) % (rd_T43 l (i : Int)).f0 = 0 := by
        rw [show rd fs (i : Int) - t = -(t - rd fs (i : Int)) by omega]
        exact Int.emod_eq_zero_of_dvd (Int.dvd_neg.2 (Int.dvd_of_emod_eq_zero h5))
      have := mul_ge (by omega) (by omega) h6
      omega
  · rintro ⟨h1, h2⟩
    exact ⟨by omega, hm.2 h2⟩
theorem Rl.rel {l : List S43} {st : List Int} {t : Int} {x : St} {lg fs dn : List Int} (h : Rl l st t x lg fs dn) (hok : ∀ x ∈ l, okp x) : Rl l st (t + 1) (relK l st t l.length x) lg fs dn := by
  refine ⟨h.l1, h.l2, h.l3, h.out, fun i hi => ?_, fun i hi => ?_, fun i hi => ?_⟩
  · have hf := h.fst i hi
    refine ⟨hf.1, hf.2.1, hf.2.2.1, ?_⟩
    rcases hf.2.2.2 with h4 | h4
    · exact .inl h4
    · exact .inr (by omega)
  · have ho := okp_get hok hi
    unfold okp at ho
    have hq := h.que i hi
    have hr := h.rc hok hi
    simp only [relK]
    by_cases hc : H.rc l st t i = true
    · rw [if_pos ⟨hi, hc⟩]
      have := hr.1 hc
      exact hq.rel (by omega) this.1 this.2
    · rw [if_neg (fun hh => hc hh.2)]
      exact hq.not (fun hh => hc (hr.2 hh))
  · have hl := h.lft i hi
    refine ⟨hl.1, hl.2.1, ?_⟩
    have h3 := hl.2.2
    simp only [relK]
    by_cases hq : x.qs i = []
    · have h0 := h3.1 hq
      by_cases hc : H.rc l st t i = true
      · rw [if_pos ⟨hi, hc⟩, if_pos ⟨hi, hc, hq⟩]
        exact ⟨fun hh => h0, fun _ => by omega⟩
      · rw [if_neg (fun hh => hc hh.2)]
        exact ⟨fun _ => h0, fun hh => absurd hq hh⟩
    · have e1 : ¬ (i < l.length ∧ H.rc l st t i = true ∧ x.qs i = []) := fun hh => hq hh.2.2
      rw [if_neg e1]
      by_cases hc : H.rc l st t i = true
      · rw [if_pos ⟨hi, hc⟩]
        exact ⟨fun hh => absurd hh (by simp), fun _ => h3.2 hq⟩
      · rw [if_neg (fun hh => hc hh.2)]
        exact ⟨fun hh => absurd hh hq, fun _ => h3.2 hq⟩
theorem rdN {o : List Nat} {j : Nat} (h : j < o.length) : rd (o.map fun x : Nat => (x : Int)) (j : Int) = (o[j] : Int) := rd_map o h
theorem give_evt {l : List S43} {st : List Int} {row : List Bool} {t : Nat} {y : St} {lg fs dn : List Int} {r : List Int × Int} (hst : ∀ i : Nat, i < l.length → 0 ≤ rd st (i : Int)) (hok : ∀ x ∈ l, okp x) (h8 : l.length ≤ 8) (ht : t < row.length) (h4 : row.length ≤ 4096) (hg : rdOf false row (t : Int) = true) (h : Rl l st ((t : Int) + 1) y lg fs dn)
    (hlg : ∀ i : Nat, i < l.length → 0 ≤ rd lg (i : Int) ∧ rd lg (i : Int) ≤ 5000)
    (hc : ∀ lg' fs' dn', Rl l st ((t : Int) + 1) (giveS l (t : Int) (ol l) y) lg' fs' dn' → (∀ i : Nat, i < l.length → 0 ≤ rd lg' (i : Int) ∧ rd lg' (i : Int) ≤ 5000) → Evt (fun k => titheref22_Play.l2 k l row (ordl l) lg' fs' dn' ((t + 1 : Nat) : Int)) r) :
    ∀ (d p : Nat), p + d = (ol l).length → giveS l (t : Int) ((ol l).drop p) y = giveS l (t : Int) (ol l) y → Evt (fun k => titheref22_Play.l3 k l row (ordl l) lg fs dn (t : Int) (p : Int)) r := by
  have hlen : (ordl l).length = (ol l).length := by rw [ordl_eq, List.length_map]
  have htw : wrap64 ((t : Int) + 1) = ((t + 1 : Nat) : Int) := w1 t (by omega)
  intro d
  induction d with
  | zero =>
    intro p hp hgv
    refine Evt.succ ?_
    simp only [titheref22_Play.l3]
    refine Evt.ifn (by omega) (Evt.succ ?_)
    simp only [titheref22_Play.j5]
    rw [htw]
    refine Evt.ifn (by simp) (hc lg fs dn ?_ hlg)
    rw [← hgv, List.drop_of_length_le (by omega)]
    exact h
  | succ d ih =>
    intro p hp hgv
    have hpl : p < (ol l).length := by omega
    have hin : (ol l)[p] < l.length := ol_mem.1 (List.getElem_mem hpl)
    have hd : (ol l).drop p = (ol l)[p] :: (ol l).drop (p + 1) := List.drop_eq_getElem_cons hpl
    rw [hd] at hgv
    generalize hi : (ol l)[p] = i at hin hgv
    have hrp : rd (ordl l) (p : Int) = (i : Int) := by rw [ordl_eq, rd_map (ol l) hpl, hi]
    have hf := h.fst i hin
    have ho := okp_get hok hin
    unfold okp at ho
    have hq := (h.que i hin).head
    have hl := h.lft i hin
    have l1 := h.l1
    have l2 := h.l2
    have l3 := h.l3
    have hs0 := hst i hin
    have hp8 : p < 8 := by have := ol_length l; omega
    refine Evt.succ ?_
    simp only [titheref22_Play.l3]
    refine Evt.ifp (by omega) (Evt.ifp (by omega) (Evt.ifp (by omega) (Evt.succ ?_)))
    simp only [titheref22_Play.j5]
    rw [hg, hrp, htw, w1 p (by omega)]
    refine Evt.ifp rfl (Evt.ifp (by omega) (Evt.ifp (by omega) (Evt.ifp (by omega) (Evt.ifp (by omega) ?_))))
    by_cases hfs : rd fs (i : Int) > (t : Int)
    · have hqe : y.qs i = [] := hq.1.2 (by omega)
      refine Evt.ifp hfs (ih (p + 1) (by omega) ?_)
      rw [give_skip hqe] at hgv
      exact hgv
    · have hqn : y.qs i ≠ [] := fun hh => hfs (by have := hq.1.1 hh; omega)
      obtain ⟨a, q, haq⟩ : ∃ a q, y.qs i = a :: q := by
        cases hh : y.qs i with
        | nil => exact absurd hh hqn
        | cons a q => exact ⟨a, q, rfl⟩
      obtain ⟨rfl, hq2⟩ := hq.2 a q haq
      have hls := hl.2.2.2 hqn
      have hdw : wrap64 (rd dn (i : Int) + 1) = rd dn (i : Int) + 1 := w64 (by omega) (by omega)
      refine Evt.ifn hfs (Evt.ifp (by omega) (Evt.call rfl (Evt.ifp (by omega) ?_)))
      rw [Int.toNat_natCast, rd_set _ (by omega), if_pos rfl, hdw]
      by_cases hlast : rd dn (i : Int) + 1 = (rd_T43 l (i : Int)).f1
      · have hl1 : y.ls i = 1 := by omega
        have e1 : wrap64 (((t + 1 : Nat) : Int) - rd fs (i : Int)) = (t : Int) + 1 - rd fs (i : Int) := by rw [w64 (by omega) (by omega)]; omega
        have e2 : wrap64 (rd fs (i : Int) + (rd_T43 l (i : Int)).f0) = rd fs (i : Int) + (rd_T43 l (i : Int)).f0 := w64 (by omega) (by omega)
        refine Evt.ifp hlast (Evt.ifp (by omega) ?_)
        rw [e1, e2]
        have hgi := hlg i hin
        have hmx : mx (rd lg (i : Int)) ((t : Int) + 1 - rd fs (i : Int)) = max (rd lg (i : Int)) ((t : Int) + 1 - rd fs (i : Int)) := by unfold mx; omega
        rw [hmx]
        have hgv2 := hgv
        rw [give_last haq hl1] at hgv2
        refine hc _ _ _ ?_ ?_
        · rw [← hgv2]
          refine ⟨by rw [List.length_set]; exact l1, by rw [List.length_set]; exact l2, by rw [List.length_set, List.length_set]; exact l3, fun j hj => ?_, fun j hj => ?_, fun j hj => ?_, fun j hj => ?_⟩
          · rw [rd_set _ (by omega)]
            by_cases e : i = j
            · subst e; rw [if_pos rfl]; simp only [upd_same]; rw [h.out i hin]
            · rw [if_neg e]; simp only [upd_other _ _ (Ne.symm e)]; exact h.out j hj
          · rw [rd_set _ (by omega)]
            by_cases e : i = j
            · subst e
              rw [if_pos rfl]
              refine ⟨by omega, ?_, by omega, .inr (by omega)⟩
              rw [show rd fs (i : Int) + (rd_T43 l (i : Int)).f0 - rd st (i : Int) = (rd fs (i : Int) - rd st (i : Int)) + (rd_T43 l (i : Int)).f0 by omega, Int.add_emod_right]
              exact hf.2.1
            · rw [if_neg e]; exact h.fst j hj
          · rw [rd_set _ (by omega)]
            by_cases e : i = j
            · subst e; rw [if_pos rfl]; simp only [upd_same]; exact hq2
            · rw [if_neg e]; simp only [upd_other _ _ (Ne.symm e)]; exact h.que j hj
          · rw [rd_set _ (by rw [List.length_set]; omega)]
            by_cases e : i = j
            · subst e
              rw [if_pos rfl]
              simp only [upd_same]
              exact ⟨by omega, by omega, fun _ => (by first | rfl | trivial), fun _ => by omega⟩
            · rw [if_neg e, rd_set _ (by omega), if_neg e]
              simp only [upd_other _ _ (Ne.symm e)]
              exact h.lft j hj
        · intro j hj
          rw [rd_set _ (by omega)]
          by_cases e : i = j
          · subst e; rw [if_pos rfl]; omega
          · rw [if_neg e]; exact hlg j hj
      · have hl1 : y.ls i ≠ 1 := by omega
        refine Evt.ifn hlast (hc _ _ _ ?_ hlg)
        rw [← hgv, give_less haq hl1]
        refine ⟨l1, l2, by rw [List.length_set]; exact l3, h.out, h.fst, h.que, fun j hj => ?_⟩
        rw [rd_set _ (by omega)]
        by_cases e : i = j
        · subst e
          rw [if_pos rfl]
          simp only [upd_same]
          exact ⟨by omega, by omega, fun hh => absurd hh hqn, fun _ => by omega⟩
        · rw [if_neg e]
          simp only [upd_other _ _ (Ne.symm e)]
          exact h.lft j hj
theorem play_l2 {l : List S43} {st : List Int} {row : List Bool} (hst : ∀ i : Nat, i < l.length → 0 ≤ rd st (i : Int)) (hok : ∀ x ∈ l, okp x) (h8 : l.length ≤ 8) (h4 : row.length ≤ 4096) : ∀ (d t : Nat) (x : St) (lg fs dn : List Int), t + d = row.length → Rl l st (t : Int) x lg fs dn → (∀ i : Nat, i < l.length → 0 ≤ rd lg (i : Int) ∧ rd lg (i : Int) ≤ 5000) →
    Evt (fun k => titheref22_Play.l2 k l row (ordl l) lg fs dn (t : Int)) ((List.range l.length).map (runS l st (ol l) (row.drop t) (t : Int) x).out, 0) := by
  intro d
  induction d with
  | zero =>
    intro t x lg fs dn ht h hlg
    refine Evt.succ ?_
    simp only [titheref22_Play.l2]
    rw [List.drop_of_length_le (by omega)]
    have e : (List.range l.length).map (runS l st (ol l) [] (t : Int) x).out = lg := by
      apply List.ext_getElem
      · rw [List.length_map, List.length_range, h.l1]
      · intro i h1 h2
        rw [List.getElem_map, List.getElem_range]
        show x.out i = lg[i]
        rw [h.out i (by rw [← h.l1]; exact h2)]
        simp [rd, List.getD, h2]
    rw [e]
    exact Evt.ifn (by omega) (Evt.pure fun _ => rfl)
  | succ d ih =>
    intro t x lg fs dn ht h hlg
    have htl : t < row.length := by omega
    refine Evt.succ ?_
    simp only [titheref22_Play.l2]
    refine Evt.ifp (by omega) ?_
    have hr := h.rel hok
    have hd : row.drop t = row[t] :: row.drop (t + 1) := List.drop_eq_getElem_cons htl
    have hg : rdOf false row (t : Int) = row[t] := by simp [rdOf, htl]
    rw [hd]
    show Evt _ ((List.range l.length).map (runS l st (ol l) (row.drop (t + 1)) ((t : Int) + 1) (tickS l st (ol l) (t : Int) row[t] x)).out, 0)
    have htw : wrap64 ((t : Int) + 1) = ((t + 1 : Nat) : Int) := w1 t (by omega)
    have ht1 : ((t + 1 : Nat) : Int) = (t : Int) + 1 := by omega
    cases hgb : row[t] with
    | true =>
      rw [hgb] at hg
      unfold tickS
      rw [if_pos rfl]
      refine give_evt hst hok h8 htl h4 hg hr hlg ?_ (ol l).length 0 (by omega) rfl
      intro lg' fs' dn' h1 h2
      have := ih (t + 1) _ lg' fs' dn' (by omega) (by rw [ht1]; exact h1) h2
      rw [ht1] at this
      rw [ht1]
      exact this
    | false =>
      rw [hgb] at hg
      unfold tickS
      rw [if_neg (by simp)]
      have := ih (t + 1) _ lg fs dn (by omega) (by rw [ht1]; exact hr) hlg
      rw [ht1] at this htw
      refine Evt.succ ?_
      simp only [titheref22_Play.l3]
      by_cases h0 : (0 : Int) < ((ordl l).length : Int)
      · refine Evt.ifp h0 (Evt.ifp (by omega) (Evt.ifp (by omega) (Evt.succ ?_)))
        simp only [titheref22_Play.j5]
        rw [hg, htw]
        exact Evt.ifn (by simp) this
      · refine Evt.ifn h0 (Evt.succ ?_)
        simp only [titheref22_Play.j5]
        rw [htw]
        exact Evt.ifn (by simp) this
theorem rd_rep (n i : Nat) : rd (List.replicate n 0) (i : Int) = 0 := by
  by_cases h : i < n
  · simp [rd, List.getD, h]
  · simp [rd, List.getD, h]
theorem ref_l1 {l : List S43} {st : List Int} {row : List Bool} (h8 : l.length ≤ 8) (hlen : st.length = l.length) {r : List Int × Int}
    (hc : ∀ fs : List Int, fs.length = l.length → (∀ j : Nat, j < l.length → rd fs (j : Int) = rd st (j : Int)) → Evt (fun k => titheref22_Play.l2 k l row (ordl l) (List.replicate l.length 0) fs (List.replicate l.length 0) 0) r) :
    ∀ (d i : Nat) (fs : List Int), i + d = l.length → fs.length = l.length → (∀ j : Nat, j < i → rd fs (j : Int) = rd st (j : Int)) → Evt (fun k => titheref22_Play.l1 k l st row (ordl l) (List.replicate l.length 0) fs (List.replicate l.length 0) (i : Int)) r := by
  intro d
  induction d with
  | zero =>
    intro i fs hi hfl hf
    refine Evt.succ ?_
    simp only [titheref22_Play.l1]
    exact Evt.ifn (by omega) (hc fs hfl (fun j hj => hf j (by omega)))
  | succ d ih =>
    intro i fs hi hfl hf
    refine Evt.succ ?_
    simp only [titheref22_Play.l1]
    rw [w1 i (by omega), Int.toNat_natCast]
    refine Evt.ifp (by omega) (Evt.ifp (by omega) (Evt.ifp (by omega) (Evt.ifp (by omega) (ih (i + 1) _ (by omega) (by rw [List.length_set]; exact hfl) ?_))))
    intro j hj
    rw [rd_set _ (by omega)]
    by_cases e : i = j
    · subst e; rw [if_pos rfl]
    · rw [if_neg e]; exact hf j (by omega)
theorem ord_nat (l : List S43) : (ordl l).map Int.toNat = ol l := by
  rw [ordl_eq, List.map_map]
  have : (Int.toNat ∘ fun j : Nat => (j : Int)) = id := by funext j; simp
  rw [this, List.map_id]
theorem okP_ok {l : List S43} (st : List Int) (h8 : l.length ≤ 8) (hok : ∀ x ∈ l, okp x) : okP l st (ordl l) = true := by
  unfold okP
  simp only [Bool.and_eq_true, decide_eq_true_eq, List.all_eq_true]
  refine ⟨⟨by omega, fun x hx => ?_⟩, fun i hi => ?_⟩
  · have := hok x hx
    unfold okp at this
    omega
  · rw [ordl_eq] at hi
    obtain ⟨j, hj, rfl⟩ := List.mem_map.1 hi
    have := ol_mem.1 hj
    omega
theorem ref_l0 {l : List S43} {st : List Int} {row : List Bool} (h8 : l.length ≤ 8) (hv : vcode l = 0) (hok : ∀ x ∈ l, okp x) (hlen : st.length = l.length) (h4 : row.length ≤ 4096) :
    ∀ (d i : Nat), i + d = st.length → (∀ j : Nat, j < i → ¬ rd st (j : Int) < 0 ∧ ¬ rd st (j : Int) > 1073741824) → Evt (fun k => titheref22_Play.l0 k l st row (i : Int)) (if badS st = true then ([], 1) else (playL l st (ol l) row, 0)) := by
  intro d
  induction d with
  | zero =>
    intro i hi hg
    have hb : badS st = false := badS_some (fun k hk => hg k (by omega))
    rw [hb, if_neg (by simp)]
    refine Evt.succ ?_
    simp only [titheref22_Play.l0]
    have ho := refOrder_evt h8 hv
    refine Evt.ifn (by omega) (Evt.bind ho (Evt.ifp (by omega) (Evt.ifp (by simp only [Int.toNat_natCast]; omega) ?_)))
    simp only [Int.toNat_natCast]
    have hst : ∀ j : Nat, j < l.length → 0 ≤ rd st (j : Int) ∧ rd st (j : Int) ≤ 1073741824 := fun j hj => by have := hg j (by omega); omega
    refine ref_l1 h8 hlen ?_ l.length 0 _ (by omega) (by simp) (fun j hj => by omega)
    intro fs hfl hf
    have := play_l2 (l := l) (st := st) (row := row) (fun i hi => (hst i hi).1) hok h8 h4 row.length 0 x0 (List.replicate l.length 0) fs (List.replicate l.length 0) (by omega) ?_ (fun i hi => by rw [rd_rep]; omega)
    · rw [List.drop_zero] at this
      exact this
    · refine ⟨by simp, hfl, by simp, fun i hi => by rw [rd_rep]; rfl, fun i hi => ?_, fun i hi => ?_, fun i hi => ?_⟩
      · rw [hf i hi]
        have := hst i hi
        refine ⟨Int.le_refl _, by simp, this.2, .inl rfl⟩
      · rw [hf i hi]
        exact .none (by have := hst i hi; omega)
      · have := okp_get hok hi
        unfold okp at this
        rw [rd_rep]
        exact ⟨by omega, by omega, fun _ => rfl, fun hh => absurd rfl hh⟩
  | succ d ih =>
    intro i hi hg
    have hil : i < st.length := by omega
    refine Evt.succ ?_
    simp only [titheref22_Play.l0]
    rw [w1 i (by omega)]
    refine Evt.ifp (by omega) (Evt.ifp (by omega) ?_)
    by_cases h1 : rd st (i : Int) < 0
    · have hb : badS st = true := by
        cases hq : badS st with
        | true => rfl
        | false => exact absurd h1 (badS_not hq hil).1
      rw [if_pos hb]
      exact Evt.ifp h1 (Evt.pure fun _ => rfl)
    · by_cases h2 : rd st (i : Int) > 1073741824
      · have hb : badS st = true := by
          cases hq : badS st with
          | true => rfl
          | false => exact absurd h2 (badS_not hq hil).2
        rw [if_pos hb]
        exact Evt.ifn h1 (Evt.ifp h2 (Evt.pure fun _ => rfl))
      · refine Evt.ifn h1 (Evt.ifn h2 (ih (i + 1) (by omega) ?_))
        intro j hj
        by_cases e : j = i
        · subst e; exact ⟨h1, h2⟩
        · exact hg j (by omega)
theorem plays_rel (l : List S43) (st : List Int) (row : List Bool) (hl : l.length ≤ 4398046511104) (hsl : st.length ≤ 140737488351232) : ∃ a e f, Evt (fun k => response_Play.f k l st row) (a, e) ∧ Evt (fun k => titheref22_Play.f k l st row) (a, f) ∧ nm e = f ∧ a.length ≤ 4398046511104 := by
  by_cases hv : vcode l = 0
  · obtain ⟨h8, hok⟩ := vcode_ok.1 hv
    have hver : verr l = none := by unfold verr; rw [if_pos hv]
    by_cases hc : st.length ≠ l.length ∨ 4096 < row.length
    · refine ⟨[], some 1, 1, ?_, ?_, rfl, by simp⟩
      · unfold response_Play.f
        refine Evt.bind (check0_evt hl) ?_
        rw [hver]
        exact Evt.ifn (by simp) (Evt.ifp hc (Evt.pure fun _ => rfl))
      · unfold titheref22_Play.f
        refine Evt.bind (refValid_evt l hl) (Evt.ifp hv ?_)
        by_cases h1 : st.length = l.length
        · have h2 : 4096 < row.length := by
            rcases hc with h | h
            · exact absurd h1 h
            · exact h
          refine Evt.ifp (by omega) (Evt.succ ?_)
          simp only [titheref22_Play.j0]
          exact Evt.ifp (decide_eq_true (by omega)) (Evt.pure fun _ => rfl)
        · refine Evt.ifn (by omega) (Evt.succ ?_)
          simp only [titheref22_Play.j0]
          exact Evt.ifp (by first | rfl | trivial) (Evt.pure fun _ => rfl)
    · have h1 : st.length = l.length := Classical.byContradiction fun h => hc (.inl h)
      have h2 : row.length ≤ 4096 := by
        apply Classical.byContradiction
        intro h
        exact hc (.inr (by omega))
      have hr := ref_l0 (row := row) h8 hv hok h1 h2 st.length 0 (by omega) (fun j hj => by omega)
      have href : ∀ {z : List Int × Int}, Evt (fun k => titheref22_Play.l0 k l st row 0) z → Evt (fun k => titheref22_Play.f k l st row) z := by
        intro z hz
        unfold titheref22_Play.f
        refine Evt.bind (refValid_evt l hl) (Evt.ifp hv (Evt.ifp (by omega) (Evt.succ ?_)))
        simp only [titheref22_Play.j0]
        exact Evt.ifn (by simp; omega) hz
      cases hb : badS st with
      | true =>
        rw [hb, if_pos rfl] at hr
        refine ⟨[], some 1, 1, ?_, href hr, rfl, by simp⟩
        unfold response_Play.f
        refine Evt.bind (check0_evt hl) ?_
        rw [hver, hb]
        exact Evt.ifn (by simp) (Evt.ifn hc (Evt.ifp rfl (Evt.pure fun _ => rfl)))
      | false =>
        rw [hb, if_neg (by simp)] at hr
        refine ⟨playL l st (ol l) row, none, 0, ?_, href hr, rfl, by unfold playL; simp; omega⟩
        unfold response_Play.f
        refine Evt.bind (check0_evt hl) ?_
        rw [hver, hb]
        have ho := Order_evt hl
        rw [if_pos hv] at ho
        refine Evt.ifn (by simp) (Evt.ifn hc (Evt.ifn (by simp) (Evt.bind ho (Evt.ifp (okP_ok st h8 hok) (Evt.pure fun _ => ?_)))))
        rw [ord_nat]
  · have hver : verr l = some (vcode l) := by unfold verr; rw [if_neg hv]
    refine ⟨[], some (vcode l), vcode l, ?_, ?_, rfl, by simp⟩
    · unfold response_Play.f
      refine Evt.bind (check0_evt hl) ?_
      rw [hver]
      exact Evt.ifp rfl (Evt.pure fun _ => rfl)
    · unfold titheref22_Play.f
      exact Evt.bind (refValid_evt l hl) (Evt.ifn hv (Evt.pure fun _ => rfl))
theorem ResponsePlays : tithelaw22_ResponsePlays.Pure := by
  intro l st row _ hl1 _ _ hs1 _ _ _ _
  have hl : l.length < 4398046511104 := by omega
  refine Evt.ex ?_
  obtain ⟨a, e, f, h1, h2, h3, h4⟩ := plays_rel l st row (by omega) (by omega)
  unfold tithelaw22_ResponsePlays.f
  refine Evt.call (twin22 l hl) (Evt.bind h1 (Evt.bind h2 (Evt.bind (ints22 a h4) (Evt.ifp rfl (Evt.call (num22 e) (Evt.ifp h3 (Evt.bind works22_evt (Evt.pure fun _ => rfl))))))))
end Go.Proofs.YtdonlmbhamcjdaaRRR.Pure
