/- Proved here: ResponseLeast answers true at all work, every place and every row of reservations. No conditions. -/
import Derived.Test.YtdonlmbhamcjdaaRRRDefResponseLeast
import Derived.Test.YtdonlmbhamcjdaaRRRRLeast
namespace Go.Proofs.YtdonlmbhamcjdaaRRR.Pure
open Go Go.RowKit Tithe Go.Proofs.YtdonlmbhamcjdaaRRR.F Go.Proofs.YtdonlmbhamcjdaaRRRW.PrintWords Go.Proofs.YtdonlmbhamcjdaaRRRW.PrintLast Go.Proofs.YtdonlmbhamcjdaaRRRW.PrintMore

theorem works22 : tithelaw22_works.f 60 = some true := by decide +kernel
theorem works22_evt : Evt (fun k => tithelaw22_works.f k) true := Evt.of_mono (fun k => tithelaw22_works.mono k) works22
theorem twin22 (l : List S43) (h : l.length < 4398046511104) : tithelaw22_twin.f l = some l := by
  unfold tithelaw22_twin.f
  rw [if_pos (by simpa using h)]; rfl
theorem row22 (l : List S64) (h : l.length < 8796093022208) : tithelaw22_row.f l = some l := by
  unfold tithelaw22_row.f
  rw [if_pos (by simpa using h)]; rfl
theorem RefDown_ok {m : List S64} (h8 : m.length ≤ 8) (hm : ∀ x ∈ m, okr (pr x)) {t : Int} (h0 : 0 ≤ t) (h1 : t ≤ 1073741824) : Evt (fun k => titheref21_Down.f k m t) (dn (m.map pr) t, 0) := by
  obtain ⟨x, e, n, q1, q2, q3⟩ := Down_rel (l := m) (by omega) t
  have := Evt.inj q1 (Down_evt h8 hm h0 h1)
  simp only [Prod.mk.injEq] at this
  obtain ⟨rfl, rfl⟩ := this
  rw [← q3] at q2
  exact q2

theorem fits_self {l : List S43} {m : List S64} {j : Nat} (hj : j < l.length) : fits l m j (rd_T43 l (j : Int)).f1 ↔ ∀ i : Nat, i < l.length → fitAt l m i := by
  unfold fits
  rw [setc_id hj]
/-- where all is in time, the greatest cost is not below the entry's own -/
theorem most_ge {l : List S43} {m : List S64} (h : fc l m = 0) {j : Nat} (hj : j < l.length) {n : Int} (h1 : n = (rd_T43 l (j : Int)).f2 ∨ ¬ fits l m j (n + 1)) (hf : ∀ i : Nat, i < l.length → fitAt l m i) : (rd_T43 l (j : Int)).f1 ≤ n := by
  obtain ⟨h8, hok⟩ := fc_ok h
  obtain ⟨hm8, hm⟩ := fc_row h
  have hx := hok _ (List.getElem_mem hj)
  rw [← rd_get hj] at hx
  obtain ⟨a1, a2, _, _, a3, a4, _⟩ := hx
  rcases h1 with h1 | h1
  · obtain ⟨t, t0, t1, t2⟩ := hf j hj
    have := (lev_pos hok hj (t := t) (by omega) (by omega)).2
    have := dn_le (oks hm) (t := t) (by omega)
    omega
  · by_cases hc : (rd_T43 l (j : Int)).f1 ≤ n
    · exact hc
    · exact absurd (fits_mono hj hok (by omega) ((fits_self hj).2 hf)) h1

theorem last_evt {l : List S43} {m : List S64} (h : fc l m = 0) {j : Nat} (hj : j < l.length) {n : Int} (n1 : 1 ≤ n) (n2 : n ≤ (rd_T43 l (j : Int)).f2) (hn : n = (rd_T43 l (j : Int)).f2 ∨ ¬ fits l m j (n + 1)) :
    Evt (fun k => tithelaw22_ResponseLeast.j2 k l (j : Int) m n (setc l j (n + 1)) false) true := by
  obtain ⟨h8, hok⟩ := fc_ok h
  obtain ⟨hm8, hm⟩ := fc_row h
  have hx := hok _ (List.getElem_mem hj)
  rw [← rd_get hj] at hx
  obtain ⟨a1, a2, _, _, a3, a4, _⟩ := hx
  obtain ⟨b, q1, q2⟩ := Fits_ok h
  refine Evt.succ ?_
  simp only [tithelaw22_ResponseLeast.j2]
  refine Evt.ifn (by simp) (Evt.ifp (by omega) (Evt.ifp (by omega) ?_))
  by_cases hd : n = (rd_T43 l (j : Int)).f2
  · refine Evt.ifp hd (Evt.call (twin22 l (by omega)) (Evt.call (row22 m (by omega)) (Evt.bind q1 ?_)))
    cases b with
    | true => exact Evt.ifp rfl (Evt.ifp (most_ge h hj hn (q2.1 rfl)) (Evt.bind works22_evt (Evt.pure fun _ => rfl)))
    | false => exact Evt.ifn (by simp) (Evt.bind works22_evt (Evt.pure fun _ => rfl))
  · have hnf : ¬ fits l m j (n + 1) := by
      rcases hn with h | h
      · exact absurd h hd
      · exact h
    obtain ⟨b', p1, p2⟩ := Fits_setc h hj (c := n + 1) (by omega) (by omega)
    have hb : b' = false := by
      cases b' with
      | true => exact absurd (p2.1 rfl) hnf
      | false => rfl
    subst hb
    refine Evt.ifn hd (Evt.call (row22 m (by omega)) (Evt.bind p1 (Evt.ifn (by simp) (Evt.call (twin22 l (by omega)) (Evt.call (row22 m (by omega)) (Evt.bind q1 ?_))))))
    cases b with
    | true => exact Evt.ifp rfl (Evt.ifp (most_ge h hj hn (q2.1 rfl)) (Evt.bind works22_evt (Evt.pure fun _ => rfl)))
    | false => exact Evt.ifn (by simp) (Evt.bind works22_evt (Evt.pure fun _ => rfl))

theorem loop_evt {l : List S43} {m : List S64} (h : fc l m = 0) {j : Nat} (hj : j < l.length) {v : Int} (v1 : 1 ≤ v) (v2 : v ≤ (rd_T43 l (j : Int)).f2) (v3 : lev l j v ≤ dn (m.map pr) v) (v4 : ∀ s : Int, 1 ≤ s → s < v → dn (m.map pr) s < lev l j s) :
    ∀ (d : Nat) (s : Int), s + d = v + 1 → 1 ≤ s → Evt (fun k => tithelaw22_ResponseLeast.l0 k l (j : Int) m v s) true := by
  obtain ⟨h8, hok⟩ := fc_ok h
  obtain ⟨hm8, hm⟩ := fc_row h
  have hx := hok _ (List.getElem_mem hj)
  rw [← rd_get hj] at hx
  obtain ⟨a1, a2, a5, _, a3, a4, _⟩ := hx
  intro d
  induction d with
  | zero =>
    intro s hs s1
    refine Evt.succ ?_
    simp only [tithelaw22_ResponseLeast.l0]
    obtain ⟨n, q1, n0, n1, n2, n3⟩ := Most_ok h hj
    refine Evt.ifn (by omega) (Evt.call (twin22 l (by omega)) (Evt.call (row22 m (by omega)) (Evt.bind q1 ?_)))
    by_cases hz : n = 0
    · subst hz
      obtain ⟨b, p1, p2⟩ := Fits_ok h
      have hb : b = false := by
        cases b with
        | true =>
          have := most_ge h hj n3 (p2.1 rfl)
          omega
        | false => rfl
      subst hb
      exact Evt.ifn (by simp) (Evt.ifp rfl (Evt.call (twin22 l (by omega)) (Evt.call (row22 m (by omega)) (Evt.bind p1 (Evt.ifn (by simp) (Evt.bind works22_evt (Evt.pure fun _ => rfl)))))))
    · rw [if_neg hz]
      obtain ⟨b, p1, p2⟩ := Fits_setc h hj (c := n) (by omega) (by omega)
      have hb : b = true := p2.2 (by rcases n2 with h | h; exact absurd h hz; exact h)
      subst hb
      refine Evt.ifp rfl (Evt.call (twin22 l (by omega)) (Evt.ifp (by omega) (Evt.ifp (by omega) (Evt.call (twin22 l (by omega)) (Evt.ifp (by omega) (Evt.call (a := setc l j (n + 1)) ?_ ?_))))))
      · rw [w64 (n := n + 1) (by omega) (by omega), Int.toNat_natCast]; rfl
      · refine Evt.ifn (by omega) (Evt.ifp (by omega) (Evt.ifn (by omega) (Evt.call (row22 m (by omega)) (Evt.bind (a := none) ?_ (Evt.ifp rfl (last_evt h hj (by omega) n1 n3))))))
        rw [Int.toNat_natCast]; exact p1
  | succ d ih =>
    intro s hs s1
    refine Evt.succ ?_
    simp only [tithelaw22_ResponseLeast.l0]
    have p1 := (Level_ok h8 hok hj (t := s) (by omega) (by omega)).2
    have p2 := RefDown_ok hm8 hm (t := s) (by omega) (by omega)
    have e : (decide (lev l j s ≤ dn (m.map pr) s) != (s == v)) = false := by
      by_cases hs : s = v
      · subst hs; simp [v3]
      · have := v4 s s1 (by omega)
        rw [decide_eq_false (by omega)]
        simp [hs]
    refine Evt.ifp (by omega) (Evt.bind p1 (Evt.bind p2 (Evt.ifp rfl (Evt.ifp rfl (Evt.ifn ?_ ?_)))))
    · simp only [e]; simp
    · rw [w64 (n := s + 1) (by omega) (by omega)]
      exact ih (s + 1) (by omega) (by omega)

theorem ResponseLeast : tithelaw22_ResponseLeast.Pure := by
  intro l a m _ hl1 _ _ _ hm1 _
  refine Evt.ex ?_
  unfold tithelaw22_ResponseLeast.f
  rcases Time_ok (l := l) (m := m) (by omega) (by omega) a with ⟨e, q⟩ | ⟨j, v, rfl, hj, hf, q, v1, v2, v3, v4⟩
  · exact Evt.call (twin22 l (by omega)) (Evt.call (row22 m (by omega)) (Evt.bind q (Evt.ifn (by simp) (Evt.ifp rfl (Evt.bind works22_evt (Evt.pure fun _ => rfl))))))
  · obtain ⟨h8, hok⟩ := fc_ok hf
    have hx := hok _ (List.getElem_mem hj)
    rw [← rd_get hj] at hx
    obtain ⟨a1, a2, a5, _, a3, a4, _⟩ := hx
    refine Evt.call (twin22 l (by omega)) (Evt.call (row22 m (by omega)) (Evt.bind q (Evt.ifp rfl (Evt.ifn (by omega) (Evt.ifn (by omega) (Evt.ifn (by omega) (Evt.ifp (by omega) (Evt.ifp (by omega) ?_))))))))
    rw [decide_eq_false (by omega)]
    refine Evt.succ ?_
    simp only [tithelaw22_ResponseLeast.j0]
    refine Evt.ifn (by simp) ?_
    rw [w64 (n := v - 50) (by omega) (by omega)]
    have hmx : mx 1 (v - 50) = max 1 (v - 50) := mx_max _ _
    rw [hmx]
    exact loop_evt hf hj v1 v2 v3 v4 (v + 1 - max 1 (v - 50)).toNat _ (by omega) (by omega)
end Go.Proofs.YtdonlmbhamcjdaaRRR.Pure
