/- Responses: the first time at which the level has been supplied; the greatest cost. No conditions. -/
import Derived.Test.YtffckkjaeekanaaRLevel
import Derived.Test.YtffckkjaeekanaaRSup
import Derived.Test.YtffckkjaeekanaaBx3
import Derived.Test.YtffckkjaeekanaaBx8
import Derived.Test.YtffckkjaeekanaaBx7
import Derived.Test.YtffckkjaeekanaaBx7
import Derived.Test.YtffckkjaeekanaaBx14
import Derived.Test.YtffckkjaeekanaaBx14
import Derived.Test.YtffckkjaeekanaaBx14
import Derived.Test.YtffckkjaeekanaaBx12
import Derived.Test.YtffckkjaeekanaaBx12
import Derived.Test.YtffckkjaeekanaaBx9
namespace Go.Proofs.Ytffckkjaeekanaa.Pure
open Go Go.RowKit Tithe Go.Proofs.Ytffckkjaeekanaa.B Go.Proofs.YtffckkjaeekanaaW.PrintWords Go.Proofs.YtffckkjaeekanaaW.PrintLast Go.Proofs.YtffckkjaeekanaaW.PrintMore

instance (x : Int × Int) : Decidable (okr x) := by unfold okr; infer_instance
/-- the error of a row of reservations and a number -/
def rcode (l : List S48) (t : Int) : Int := if t < 0 ∨ t > 1073741824 then 1 else if ∀ x ∈ l, okr (pr x) then (if l.length > 8 then 3 else 0) else 2
theorem row_code {l : List S48} (hl : l.length ≤ 140737488351232) (t : Int) : supply_row.f l t = some (if rcode l t = 0 then none else some (rcode l t)) := by
  unfold supply_row.f rcode
  rw [if_pos hl]
  by_cases h1 : t < 0 ∨ t > 1073741824
  · rw [if_pos h1, if_pos h1]; rfl
  · rw [if_neg h1, if_neg h1]
    by_cases h2 : l.any supply_row.bad = true
    · rw [if_pos h2]
      have : ¬ ∀ x ∈ l, okr (pr x) := by
        obtain ⟨x, hx, hb⟩ := List.any_eq_true.1 h2
        intro h
        rw [(bad_iff x).2 (h x hx)] at hb; simp at hb
      rw [if_neg this]; rfl
    · rw [if_neg h2]
      have : ∀ x ∈ l, okr (pr x) := by
        rw [Bool.not_eq_true, List.any_eq_false] at h2
        intro x hx
        exact (bad_iff x).1 (by simpa using h2 x hx)
      rw [if_pos this]
      by_cases h3 : (l.length : Int) > 8
      · rw [if_pos h3, if_pos (show l.length > 8 by omega)]; rfl
      · rw [if_neg h3, if_neg (show ¬ l.length > 8 by omega)]; rfl
theorem rcode_ok {l : List S48} {t : Int} : rcode l t = 0 ↔ (l.length ≤ 8 ∧ (∀ x ∈ l, okr (pr x)) ∧ 0 ≤ t ∧ t ≤ 1073741824) := by
  unfold rcode
  by_cases h1 : t < 0 ∨ t > 1073741824
  · rw [if_pos h1]; constructor
    · intro h; omega
    · rintro ⟨_, _, a, b⟩; omega
  · rw [if_neg h1]
    by_cases h2 : ∀ x ∈ l, okr (pr x)
    · rw [if_pos h2]
      by_cases h3 : l.length > 8
      · rw [if_pos h3]; constructor
        · intro h; omega
        · rintro ⟨a, _⟩; omega
      · rw [if_neg h3]; exact ⟨fun _ => ⟨by omega, h2, by omega, by omega⟩, fun _ => rfl⟩
    · rw [if_neg h2]; constructor
      · intro h; omega
      · rintro ⟨_, h, _⟩; exact absurd h h2
theorem ref_valid (x : S48) : titheref01_Valid.f x.f0 x.f1 = some (if okr (pr x) then 0 else 2) := by
  unfold titheref01_Valid.f
  by_cases h : okr (pr x)
  · have h' := h
    unfold okr pr at h'
    simp only [] at h'
    rw [if_pos h, if_neg (by omega), if_neg (by omega), if_neg (by omega)]
  · have h' := h
    unfold okr pr at h'
    simp only [] at h'
    rw [if_neg h]
    repeat' (first | rfl | split | (exfalso; apply h'; omega))
theorem time21_eq (t : Int) : titheref21_time.f t = some (decide (¬ (t < 0 ∨ t > 1073741824))) := by
  unfold titheref21_time.f
  by_cases h : t ≥ 0
  · rw [if_pos h]
    by_cases h2 : t ≤ 1073741824
    · rw [decide_eq_true h2, decide_eq_true (by omega)]
    · rw [decide_eq_false h2, decide_eq_false (by omega)]
  · rw [if_neg h, decide_eq_false (by omega)]
theorem refrow_evt {l : List S48} (hl : l.length ≤ 140737488351232) (t : Int) : Evt (fun k => titheref21_row.f k l t) (rcode l t) := by
  unfold titheref21_row.f rcode
  refine Evt.call (time21_eq t) ?_
  by_cases h1 : t < 0 ∨ t > 1073741824
  · rw [if_pos h1, decide_eq_false (by omega)]; exact Evt.ifn (by simp) (Evt.pure fun _ => rfl)
  · rw [if_neg h1, decide_eq_true h1]
    refine Evt.ifp rfl ?_
    have key : ∀ (d i : Nat), i + d = l.length → (∀ x ∈ l.take i, okr (pr x)) → Evt (fun k => titheref21_row.l0 k l i) (if ∀ x ∈ l, okr (pr x) then (if l.length > 8 then 3 else 0) else 2) := by
      intro d
      induction d with
      | zero =>
        intro i hi hall
        refine Evt.succ (Evt.pure fun k => ?_)
        simp only [titheref21_row.l0]
        rw [List.take_of_length_le (by omega)] at hall
        rw [if_neg (by omega), if_pos hall]
        by_cases h3 : l.length > 8
        · rw [if_pos (by omega), if_pos h3]
        · rw [if_neg (by omega), if_neg h3]
      | succ d ih =>
        intro i hi hall
        refine Evt.succ ?_
        simp only [titheref21_row.l0]
        rw [w1 i (by omega)]
        refine Evt.ifp (by omega) (Evt.ifp (by omega) (Evt.call (ref_valid _) ?_))
        rw [rd_get48 (by omega)]
        by_cases hx : okr (pr l[i])
        · rw [if_pos hx]
          refine Evt.ifp rfl (ih (i + 1) (by omega) ?_)
          rw [List.take_succ_eq_append_getElem (by omega)]
          intro x hx'
          rcases List.mem_append.1 hx' with h | h
          · exact hall x h
          · rw [List.mem_singleton.1 h]; exact hx
        · rw [if_neg hx]
          refine Evt.ifn (by omega) (Evt.pure fun _ => ?_)
          rw [if_neg (fun h => hx (h _ (List.getElem_mem _)))]
    exact key l.length 0 (by omega) (by simp)
theorem bound_eq (a b c : Int) : titheref21_bound.f a b c = supply_least.f a b c := by
  unfold titheref21_bound.f supply_least.f
  have hm : ∀ x y : Int, mx x y = mx y x := fun x y => by rw [mx_max, mx_max, Int.max_comm]
  rw [hm _ 0]

theorem Down_rel {l : List S48} (hl : l.length ≤ 140737488351232) (t : Int) : ∃ x e n, Evt (fun k => supply_Down.f k l t) (x, e) ∧ Evt (fun k => titheref21_Down.f k l t) (x, n) ∧ nm e = n := by
  have hr := refrow_evt hl t
  by_cases hc : rcode l t = 0
  · obtain ⟨h8, hok, h0, h1⟩ := rcode_ok.1 hc
    refine ⟨_, _, 0, Down_evt h8 hok h0 h1, ?_, rfl⟩
    unfold titheref21_Down.f
    rw [hc] at hr
    refine Evt.bind hr (Evt.ifp rfl ?_)
    have key : ∀ (d i : Nat) (u : Int), i + d = l.length → 0 ≤ u → u ≤ 1073741824 → Evt (fun k => titheref21_Down.l0 k l u i) (dn ((l.drop i).map pr) u, 0) := by
      intro d
      induction d with
      | zero =>
        intro i u hi hu0 hu1
        refine Evt.succ (Evt.pure fun k => ?_)
        simp only [titheref21_Down.l0]
        rw [if_neg (by omega), List.drop_of_length_le (by omega)]; rfl
      | succ d ih =>
        intro i u hi hu0 hu1
        refine Evt.succ ?_
        simp only [titheref21_Down.l0]
        rw [w1 i (by omega)]
        have hx := hok _ (List.getElem_mem (show i < l.length by omega))
        have hx' := hx
        obtain ⟨a, b, c⟩ := hx'
        simp only [pr] at a b c
        have q0 := hx.lst_nonneg u
        have q1 := hx.lst_le hu0
        simp only [pr] at q0 q1
        refine Evt.ifp (by omega) (Evt.ifp (by omega) (Evt.call (a := lst l[i].f0 l[i].f1 u) ?_ ?_))
        · rw [rd_get48 (by omega), bound_eq]; exact least_ok (by omega) b (by omega) c hu0 hu1
        · have := ih (i + 1) (lst l[i].f0 l[i].f1 u) (by omega) q0 (by omega)
          rw [List.drop_eq_getElem_cons (show i < l.length by omega)]
          exact this
    have := key l.length 0 t (by omega) h0 h1
    simpa using this
  · refine ⟨0, some (rcode l t), rcode l t, ?_, ?_, rfl⟩
    · unfold supply_Down.f
      refine Evt.call (row_code hl t) ?_
      rw [if_neg hc]
      exact Evt.ifn (by simp) (Evt.pure fun _ => rfl)
    · unfold titheref21_Down.f
      exact Evt.bind hr (Evt.ifn hc (Evt.pure fun _ => rfl))

theorem refWait_ok {q p n : Int} (hq : 1 ≤ q) (hqp : q ≤ p) (hp : p ≤ 1048576) (h0 : 0 ≤ n) (h1 : n ≤ 1073741824) :
    titheref21_Wait.f q p n = if wt q p n ≤ 1073741824 then some (wt q p n, 0) else some (0, 60) := by
  have hv := ref_valid ⟨q, p⟩
  rw [if_pos (show okr (pr ⟨q, p⟩) from ⟨hq, hqp, hp⟩)] at hv
  have hw := wait_ok hq hqp hp h0 h1
  unfold supply_wait.f at hw
  unfold titheref21_Wait.f titheref21_asked.f
  rw [time21_eq, decide_eq_true (by omega), hv]
  simp only [Option.bind_some, if_true]
  by_cases hn : n = 0
  · rw [if_pos hn]; subst hn; rw [wt_zero, if_pos (by omega)]
  · rw [if_neg hn, if_neg (by omega)] at hw
    rw [if_neg hn, if_neg (by omega)]
    generalize wrap64 (wrap64 (wrap64 (wrap64 (2 * wrap64 (p - q)) + wrap64 (wrap64 (Int.tdiv (wrap64 (n - 1)) q) * p)) + n) - wrap64 (wrap64 (Int.tdiv (wrap64 (n - 1)) q) * q)) = z at hw ⊢
    by_cases hz : z ≤ 1073741824
    · rw [if_pos hz] at hw
      rw [if_neg (by omega)]
      by_cases hm : wt q p n ≤ 1073741824
      · rw [if_pos hm] at hw ⊢
        simp only [Option.some.injEq, Prod.mk.injEq, and_true] at hw
        rw [hw]
      · rw [if_neg hm] at hw
        simp at hw
    · rw [if_neg hz] at hw
      rw [if_pos (by omega)]
      by_cases hm : wt q p n ≤ 1073741824
      · rw [if_pos hm] at hw
        simp at hw
      · rw [if_neg hm]
theorem Through_rel {l : List S48} (hl : l.length ≤ 140737488351232) (n : Int) : ∃ x e m, supply_Through.f l n = some (x, e) ∧ Evt (fun k => titheref21_Through.f k l n) (x, m) ∧ nm e = m ∧ (e = none ↔ m = 0) ∧ x ≤ 1073741824 := by
  have hr := refrow_evt hl n
  by_cases hc : rcode l n = 0
  · obtain ⟨h8, hok, h0, h1⟩ := rcode_ok.1 hc
    have key : ∀ (i : Nat), i ≤ l.length → ∀ n : Int, 0 ≤ n → n ≤ 1073741824 → ∃ x e m, supply_Through.l0 (l.take i).reverse n = some (x, e) ∧ Evt (fun k => titheref21_Through.l0 k l n ((i : Int) - 1)) (x, m) ∧ nm e = m ∧ (e = none ↔ m = 0) ∧ x ≤ 1073741824 := by
      intro i
      induction i with
      | zero =>
        intro _ n n0 n1
        refine ⟨n, none, 0, rfl, Evt.succ (Evt.pure fun k => ?_), rfl, by simp, n1⟩
        simp only [titheref21_Through.l0]
        rw [if_neg (by omega)]
      | succ i ih =>
        intro hi n n0 n1
        have hx := hok _ (List.getElem_mem (show i < l.length by omega))
        have hw := hx.wt_ge n0
        obtain ⟨a, b, c⟩ := hx
        simp only [pr] at a b c hw
        rw [List.take_succ_eq_append_getElem (by omega), List.reverse_append, List.reverse_singleton, List.singleton_append]
        simp only [supply_Through.l0]
        rw [wait_ok a b c n0 n1]
        have step : ∀ r, Evt (fun k => (titheref21_Wait.f l[i].f0 l[i].f1 n).bind fun bt => if bt.2 = 0 then titheref21_Through.l0 k l bt.1 (wrap64 ((i : Int) - 1)) else some (0, bt.2)) r → Evt (fun k => titheref21_Through.l0 k l n (((i + 1 : Nat) : Int) - 1)) r := by
          intro r h
          refine Evt.succ ?_
          simp only [titheref21_Through.l0]
          rw [show ((i + 1 : Nat) : Int) - 1 = (i : Int) by omega, rd_get48 (by omega)]
          exact Evt.ifp (by omega) (Evt.ifp (by omega) (Evt.ifp (by omega) h))
        by_cases hm : wt l[i].f0 l[i].f1 n ≤ 1073741824
        · rw [if_pos hm]
          obtain ⟨x, e, m, q1, q2, q3, q4, q5⟩ := ih (by omega) (wt l[i].f0 l[i].f1 n) (by omega) hm
          refine ⟨x, e, m, ?_, step _ ?_, q3, q4, q5⟩
          · simp only [Option.bind_some, Option.isNone_none, if_true]; exact q1
          · rw [refWait_ok a b c n0 n1, if_pos hm, w64 (n := (i : Int) - 1) (by omega) (by omega)]
            exact Evt.call rfl (Evt.ifp rfl q2)
        · rw [if_neg hm]
          refine ⟨0, some 60, 60, rfl, step _ ?_, rfl, by simp, by omega⟩
          rw [refWait_ok a b c n0 n1, if_neg hm]
          exact Evt.call rfl (Evt.ifn (by simp) (Evt.pure fun _ => rfl))
    obtain ⟨x, e, m, q1, q2, q3, q4, q5⟩ := key l.length (Nat.le_refl _) n h0 h1
    rw [List.take_of_length_le (Nat.le_refl _)] at q1
    refine ⟨x, e, m, ?_, ?_, q3, q4, q5⟩
    · unfold supply_Through.f
      rw [row_code hl, if_pos hc]; exact q1
    · unfold titheref21_Through.f
      rw [hc] at hr
      rw [w64 (n := (l.length : Int) - 1) (by omega) (by omega)]
      exact Evt.bind hr (Evt.ifp rfl q2)
  · refine ⟨0, some (rcode l n), rcode l n, ?_, ?_, rfl, ⟨fun h => by simp at h, fun h => absurd h hc⟩, by omega⟩
    · unfold supply_Through.f
      rw [row_code hl, if_neg hc]; rfl
    · unfold titheref21_Through.f
      exact Evt.bind hr (Evt.ifn hc (Evt.pure fun _ => rfl))

/-- the error of work and a row of reservations -/
def fc (l : List S39) (m : List S48) : Int := if vcode l = 0 then rcode m 0 else vcode l
theorem check_evt {l : List S39} {m : List S48} (hl : l.length ≤ 4398046511104) (hm : m.length ≤ 140737488351232) : Evt (fun k => response_check.f k l m) (if fc l m = 0 then none else some (fc l m)) := by
  unfold response_check.f fc
  refine Evt.bind (Valid_evt l hl) ?_
  by_cases hv : vcode l = 0
  · rw [if_pos hv]
    unfold verr
    rw [if_pos hv]
    refine Evt.ifp rfl ?_
    by_cases hc : rcode m 0 = 0
    · obtain ⟨h8, hok, h0, h1⟩ := rcode_ok.1 hc
      rw [if_pos hc]
      exact Evt.bind (Down_evt h8 hok h0 h1) (Evt.pure fun _ => rfl)
    · rw [if_neg hc]
      refine Evt.bind (a := (0, some (rcode m 0))) ?_ (Evt.pure fun _ => rfl)
      unfold supply_Down.f
      refine Evt.call (row_code hm 0) ?_
      rw [if_neg hc]
      exact Evt.ifn (by simp) (Evt.pure fun _ => rfl)
  · rw [if_neg hv, if_neg hv]
    unfold verr
    rw [if_neg hv]
    exact Evt.ifn (by simp) (Evt.pure fun _ => rfl)
theorem fault_evt {l : List S39} {m : List S48} (hl : l.length ≤ 4398046511104) (hm : m.length ≤ 140737488351232) : Evt (fun k => titheref22_fault.f k l m) (fc l m) := by
  unfold titheref22_fault.f fc
  refine Evt.bind (refValid_evt l hl) ?_
  by_cases hv : vcode l = 0
  · rw [if_pos hv]
    refine Evt.ifp hv ?_
    obtain ⟨x, e, n, q1, q2, q3⟩ := Down_rel hm 0
    have hn : n = rcode m 0 := by
      have hr := refrow_evt hm 0
      by_cases hc : rcode m 0 = 0
      · obtain ⟨h8, hok, h0, h1⟩ := rcode_ok.1 hc
        have := Evt.inj q1 (Down_evt h8 hok h0 h1)
        simp only [Prod.mk.injEq] at this
        rw [this.2] at q3
        rw [hc]; exact q3.symm
      · have h2 : Evt (fun k => titheref21_Down.f k m 0) (0, rcode m 0) := by
          unfold titheref21_Down.f
          exact Evt.bind hr (Evt.ifn hc (Evt.pure fun _ => rfl))
        have := Evt.inj q2 h2
        simp only [Prod.mk.injEq] at this
        exact this.2
    rw [← hn]
    exact Evt.bind q2 (Evt.pure fun _ => rfl)
  · rw [if_neg hv]
    exact Evt.ifn hv (Evt.pure fun _ => rfl)

theorem time_rel {l : List S39} {m : List S48} (hl : l.length ≤ 8) (hm : m.length ≤ 140737488351232) (hok : ∀ x ∈ l, okp x) {j : Nat} (hj : j < l.length) :
    ∃ v b, Evt (fun k => response_time.f k l (j : Int) m) (v, b) ∧ Evt (fun k => titheref22_time.f k l (j : Int) m) v ∧ (b = true → 1 ≤ v) ∧ (b = false → v = 0) := by
  have hx := hok _ (List.getElem_mem hj)
  rw [← rd_get hj] at hx
  obtain ⟨a1, a2, _, _, a3, a4, _⟩ := hx
  have main : ∀ (d : Nat) (t : Int), t + d = (rd_T39 l (j : Int)).f2 + 1 → 1 ≤ t →
      ∃ v b, Evt (fun k => response_time.l0 k l (j : Int) m t) (v, b) ∧ Evt (fun k => titheref22_time.l0 k l (j : Int) m t) v ∧ (b = true → 1 ≤ v) ∧ (b = false → v = 0) := by
    intro d
    induction d using Nat.strongRecOn with
    | _ d ih =>
      intro t hd t0
      by_cases hgt : t > (rd_T39 l (j : Int)).f2
      · refine ⟨0, false, Evt.succ ?_, Evt.succ ?_, by simp, fun _ => rfl⟩
        · simp only [response_time.l0]
          exact Evt.ifp (by omega) (Evt.ifp (by omega) (Evt.ifp hgt (Evt.pure fun _ => rfl)))
        · simp only [titheref22_time.l0]
          exact Evt.ifp (by omega) (Evt.ifp (by omega) (Evt.ifn (by omega) (Evt.pure fun _ => rfl)))
      · obtain ⟨v1, e1, n1, p1, r1, s1⟩ := Level_evt (l := l) (by omega) (j : Int) t
        obtain ⟨v2, e2, n2, p2, r2, s2⟩ := Down_rel hm t
        have go1 : ∀ r, Evt (fun k => if v1 ≤ v2 then some (t, true) else (supply_Through.f m v1).bind fun bt => if bt.2.isNone = true then (if bt.1 > t then response_time.l0 k l (j : Int) m bt.1 else response_time.l0 k l (j : Int) m (wrap64 (t + 1))) else some (0, false)) r → Evt (fun k => response_time.l0 k l (j : Int) m t) r := by
          intro r h
          refine Evt.succ ?_
          simp only [response_time.l0]
          exact Evt.ifp (by omega) (Evt.ifp (by omega) (Evt.ifn hgt (Evt.bind p1 (Evt.bind p2 h))))
        have go2 : ∀ r, Evt (fun k => if v1 ≤ v2 then some t else (titheref21_Through.f k m v1).bind fun bt => if bt.2 = 0 then titheref22_time.l0 k l (j : Int) m (mx (wrap64 (t + 1)) bt.1) else some 0) r → Evt (fun k => titheref22_time.l0 k l (j : Int) m t) r := by
          intro r h
          refine Evt.succ ?_
          simp only [titheref22_time.l0]
          exact Evt.ifp (by omega) (Evt.ifp (by omega) (Evt.ifp (by omega) (Evt.bind r1 (Evt.bind r2 h))))
        by_cases hle : v1 ≤ v2
        · exact ⟨t, true, go1 _ (Evt.ifp hle (Evt.pure fun _ => rfl)), go2 _ (Evt.ifp hle (Evt.pure fun _ => rfl)), fun _ => t0, by simp⟩
        · obtain ⟨x, e, n, q1, q2, q3, q4, q5⟩ := Through_rel hm v1
          by_cases he : e = none
          · have hn := q4.1 he
            subst he
            subst hn
            by_cases hxt : x > t
            · by_cases hxd : x > (rd_T39 l (j : Int)).f2
              · refine ⟨0, false, go1 _ (Evt.ifn hle (Evt.call q1 (Evt.ifp rfl (Evt.ifp hxt ?_)))), go2 _ (Evt.ifn hle (Evt.bind q2 (Evt.ifp rfl ?_))), by simp, fun _ => rfl⟩
                · refine Evt.succ ?_
                  simp only [response_time.l0]
                  exact Evt.ifp (by omega) (Evt.ifp (by omega) (Evt.ifp hxd (Evt.pure fun _ => rfl)))
                · rw [show mx (wrap64 (t + 1)) x = x by rw [w64 (by omega) (by omega), mx_max]; omega]
                  refine Evt.succ ?_
                  simp only [titheref22_time.l0]
                  exact Evt.ifp (by omega) (Evt.ifp (by omega) (Evt.ifn (by omega) (Evt.pure fun _ => rfl)))
              · obtain ⟨v, b, y1, y2, y3, y4⟩ := ih ((rd_T39 l (j : Int)).f2 + 1 - x).toNat (by omega) x (by omega) (by omega)
                refine ⟨v, b, go1 _ (Evt.ifn hle (Evt.call q1 (Evt.ifp rfl (Evt.ifp hxt y1)))), go2 _ (Evt.ifn hle (Evt.bind q2 (Evt.ifp rfl ?_))), y3, y4⟩
                rw [show mx (wrap64 (t + 1)) x = x by rw [w64 (by omega) (by omega), mx_max]; omega]
                exact y2
            · obtain ⟨v, b, y1, y2, y3, y4⟩ := ih ((rd_T39 l (j : Int)).f2 + 1 - (t + 1)).toNat (by omega) (t + 1) (by omega) (by omega)
              refine ⟨v, b, go1 _ (Evt.ifn hle (Evt.call q1 (Evt.ifp rfl (Evt.ifn hxt ?_)))), go2 _ (Evt.ifn hle (Evt.bind q2 (Evt.ifp rfl ?_))), y3, y4⟩
              · rw [w64 (n := t + 1) (by omega) (by omega)]; exact y1
              · rw [show mx (wrap64 (t + 1)) x = t + 1 by rw [w64 (by omega) (by omega), mx_max]; omega]
                exact y2
          · have hn : n ≠ 0 := fun h => he (q4.2 h)
            refine ⟨0, false, go1 _ (Evt.ifn hle (Evt.call q1 (Evt.ifn ?_ (Evt.pure fun _ => rfl)))), go2 _ (Evt.ifn hle (Evt.bind q2 (Evt.ifn hn (Evt.pure fun _ => rfl)))), by simp, fun _ => rfl⟩
            cases e with
            | none => exact absurd rfl he
            | some e => simp
  obtain ⟨v, b, h1, h2, h3, h4⟩ := main (rd_T39 l (j : Int)).f2.toNat 1 (by omega) (by omega)
  exact ⟨v, b, h1, h2, h3, h4⟩
theorem fc_ok {l : List S39} {m : List S48} (h : fc l m = 0) : l.length ≤ 8 ∧ ∀ x ∈ l, okp x := by
  unfold fc at h
  by_cases hv : vcode l = 0
  · exact vcode_ok.1 hv
  · rw [if_neg hv] at h; exact absurd h hv
theorem all_rel {l : List S39} {m : List S48} (h8 : l.length ≤ 8) (hm : m.length ≤ 140737488351232) (hok : ∀ x ∈ l, okp x) :
    ∃ L b, Evt (fun k => response_all.f k l m) (L, b) ∧ Evt (fun k => titheref22_All.l0 k l m [] 0) (L, if b = true then 0 else 220) ∧ L.length ≤ 8 := by
  have key : ∀ (d i : Nat) (acc : List Int), i + d = l.length → acc.length = i → ∃ L b, Evt (fun k => response_all.l0 k l m acc (l.length : Int) i) (L, b) ∧ Evt (fun k => titheref22_All.l0 k l m acc i) (L, if b = true then 0 else 220) ∧ L.length ≤ 8 := by
    intro d
    induction d with
    | zero =>
      intro i acc hi ha
      refine ⟨acc, true, Evt.succ (Evt.pure fun k => ?_), Evt.succ (Evt.pure fun k => ?_), by omega⟩
      · simp only [response_all.l0]; rw [if_neg (by omega)]
      · simp only [titheref22_All.l0]; rw [if_neg (by omega)]; rfl
    | succ d ih =>
      intro i acc hi ha
      obtain ⟨v, b, q1, q2, q3, q4⟩ := time_rel h8 hm hok (j := i) (by omega)
      cases b with
      | true =>
        have := q3 rfl
        obtain ⟨L, b', y1, y2, y3⟩ := ih (i + 1) (acc ++ [v]) (by omega) (by simp; omega)
        refine ⟨L, b', Evt.succ ?_, Evt.succ ?_, y3⟩
        · simp only [response_all.l0]
          rw [w1 i (by omega)]
          exact Evt.ifp (by omega) (Evt.bind q1 (Evt.ifp rfl (Evt.ifp (by omega) y1)))
        · simp only [titheref22_All.l0]
          rw [w1 i (by omega)]
          exact Evt.ifp (by omega) (Evt.bind q2 (Evt.ifn (by omega) (Evt.ifp (by omega) y2)))
      | false =>
        have hv := q4 rfl
        subst hv
        refine ⟨[], false, Evt.succ ?_, Evt.succ ?_, by simp⟩
        · simp only [response_all.l0]
          exact Evt.ifp (by omega) (Evt.bind q1 (Evt.ifn (by simp) (Evt.pure fun _ => rfl)))
        · simp only [titheref22_All.l0]
          exact Evt.ifp (by omega) (Evt.bind q2 (Evt.ifp rfl (Evt.pure fun _ => rfl)))
  obtain ⟨L, b, h1, h2, h3⟩ := key l.length 0 [] (by omega) rfl
  exact ⟨L, b, h1, h2, h3⟩
theorem All_rel {l : List S39} {m : List S48} (hl : l.length ≤ 4398046511104) (hm : m.length ≤ 140737488351232) :
    ∃ L e n, Evt (fun k => response_All.f k l m) (L, e) ∧ Evt (fun k => titheref22_All.f k l m) (L, n) ∧ nm e = n ∧ L.length ≤ 8 := by
  have h1 := check_evt hl hm
  have h2 := fault_evt hl hm
  by_cases hf : fc l m = 0
  · rw [if_pos hf] at h1
    rw [hf] at h2
    obtain ⟨h8, hok⟩ := fc_ok hf
    obtain ⟨L, b, q1, q2, q3⟩ := all_rel h8 hm hok
    cases b with
    | true =>
      refine ⟨L, none, 0, ?_, ?_, rfl, q3⟩
      · unfold response_All.f; exact Evt.bind h1 (Evt.ifp rfl (Evt.bind q1 (Evt.ifp rfl (Evt.pure fun _ => rfl))))
      · unfold titheref22_All.f; exact Evt.bind h2 (Evt.ifp rfl q2)
    | false =>
      have hL : L = [] := by
        have key : ∀ (d i : Nat) (acc : List Int), i + d = l.length → ∀ k r, response_all.l0 k l m acc (l.length : Int) i = some (r, false) → r = [] := by
          intro d
          induction d with
          | zero =>
            intro i acc hi k r hr
            cases k with
            | zero => simp [response_all.l0] at hr
            | succ k =>
              simp only [response_all.l0] at hr
              rw [if_neg (by omega)] at hr
              simp at hr
          | succ d ih =>
            intro i acc hi k r hr
            cases k with
            | zero => simp [response_all.l0] at hr
            | succ k =>
              simp only [response_all.l0] at hr
              rw [if_pos (by omega), w1 i (by omega)] at hr
              obtain ⟨⟨v, b⟩, _, hr⟩ := Option.bind_eq_some_iff.1 hr
              cases b with
              | true =>
                rw [if_pos rfl] at hr
                by_cases hq : acc.length < 17592186044416
                · rw [if_pos hq] at hr; exact ih (i + 1) _ (by omega) k r hr
                · rw [if_neg hq] at hr; simp at hr
              | false =>
                rw [if_neg (by simp)] at hr
                simp at hr; exact hr
        obtain ⟨k, hk⟩ := q1.ex
        exact key l.length 0 [] (by omega) k L hk
      subst hL
      refine ⟨[], some 220, 220, ?_, ?_, rfl, by simp⟩
      · unfold response_All.f; exact Evt.bind h1 (Evt.ifp rfl (Evt.bind q1 (Evt.ifn (by simp) (Evt.pure fun _ => rfl))))
      · unfold titheref22_All.f; exact Evt.bind h2 (Evt.ifp rfl q2)
  · rw [if_neg hf] at h1
    refine ⟨[], some (fc l m), fc l m, ?_, ?_, rfl, by simp⟩
    · unfold response_All.f; exact Evt.bind h1 (Evt.ifn (by simp) (Evt.pure fun _ => rfl))
    · unfold titheref22_All.f; exact Evt.bind h2 (Evt.ifn hf (Evt.pure fun _ => rfl))
end Go.Proofs.Ytffckkjaeekanaa.Pure
namespace Go.Proofs.Ytffckkjaeekanaa.Pure
open Go Go.RowKit Tithe Go.Proofs.Ytffckkjaeekanaa.B Go.Proofs.YtffckkjaeekanaaW.PrintWords Go.Proofs.YtffckkjaeekanaaW.PrintLast Go.Proofs.YtffckkjaeekanaaW.PrintMore

/-- what a level asks for -/
def lev (l : List S39) (j : Nat) (t : Int) : Int := (rd_T39 l (j : Int)).f1 + rs (ahl l j) t
theorem Level_ok {l : List S39} (h8 : l.length ≤ 8) (hok : ∀ x ∈ l, okp x) {j : Nat} (hj : j < l.length) {t : Int} (h0 : 0 ≤ t) (h1 : t ≤ 1073741824) :
    Evt (fun k => demand_Level.f k l (j : Int) t) (lev l j t, none) ∧ Evt (fun k => titheref20_Level.f k l (j : Int) t) (lev l j t, 0) := by
  have hv : vcode l = 0 := vcode_ok.2 ⟨h8, hok⟩
  have hp := place_evt (l := l) (by omega) (j : Int)
  have hr := refValid_evt l (by omega)
  rw [if_pos hv, if_pos (by omega)] at hp
  rw [hv] at hr
  have hi : 0 ≤ (j : Int) ∧ (j : Int) < l.length := by omega
  have ht : 0 ≤ t ∧ t ≤ 1073741824 := ⟨h0, h1⟩
  have hx := hok _ (List.getElem_mem hj)
  have hx' := hx
  obtain ⟨_, _, c1, c2, _⟩ := hx'
  rw [← rd_get hj] at c1 c2
  unfold lev
  constructor
  · unfold demand_Level.f
    refine Evt.bind hp (Evt.ifp rfl (Evt.call (is_eq t 0 1073741824) ?_))
    rw [decide_eq_true ht]
    refine Evt.ifp rfl (Evt.ifp (by omega) (Evt.ifp (by omega) (Evt.bind (ahead_evt h8 j) ?_)))
    have hLok := ahl_ok hok (i := j)
    have hLl := ahl_len hj
    generalize ahl l j = L at *
    have key : ∀ (d p : Nat) (acc : Int), p + d = L.length → 0 ≤ acc → acc ≤ (p + 1) * 2251799813685248 → Evt (fun k => demand_Level.l0 k t acc L (L.length : Int) p) (acc + rs (L.drop p) t, none) := by
      intro d
      induction d with
      | zero =>
        intro p acc hp a0 a1
        refine Evt.succ (Evt.pure fun k => ?_)
        simp only [demand_Level.l0]
        rw [if_neg (by omega), List.drop_of_length_le (by omega), rs_nil, Int.add_zero]
      | succ d ih =>
        intro p acc hp a0 a1
        have hy := hLok _ (List.getElem_mem (show p < L.length by omega))
        have hb := rq_bounds hy ht.1 (by omega)
        refine Evt.succ ?_
        simp only [demand_Level.l0]
        rw [w1 p (by omega)]
        refine Evt.ifp (by omega) (Evt.ifp (by omega) (Evt.ifp (by omega) (Evt.call (a := rq L[p] t) ?_ ?_)))
        · rw [rd_get (by omega)]; exact requests_ok hy ht.1 (by omega)
        · rw [w64 (n := acc + rq L[p] t) (by omega) (by omega), List.drop_eq_getElem_cons (by omega), rs_cons, ← Int.add_assoc]
          exact ih (p + 1) _ (by omega) (by omega) (by omega)
    exact key L.length 0 _ (by omega) (by omega) (by omega)
  · unfold titheref20_Level.f
    refine Evt.bind hr (Evt.ifp rfl (Evt.ifn (by omega) (Evt.ifn (by omega) (Evt.call (time_eq t) ?_))))
    rw [decide_eq_true ht]
    refine Evt.ifp rfl (Evt.ifp (by omega) (Evt.ifp (by omega) ?_))
    refine ref_sum hok h8 hj ht.1 (by omega) (fun k acc kk => titheref20_Level.l0 k l (j : Int) t acc kk) _ ?_ l.length 0 _ (by omega) (by omega) (by omega) ?_
    · intro k acc kk hk
      simp only [titheref20_Level.l0]
      rw [if_pos (by omega), Ahead_ok hk hj, rd_get hk, ref_requests_ok (hok _ (List.getElem_mem hk)) ht.1 (by omega)]
      simp only [Option.bind_some]
      rw [if_pos (show (0 : Int) ≤ (kk : Int) by omega)]
    · rw [List.drop_zero, ← ahl_sum hj (fun x => rq x t)]
      refine Evt.succ (Evt.pure fun k => ?_)
      simp only [titheref20_Level.l0]
      rw [if_neg (by omega)]; rfl
theorem rs_mono {L : List S39} (hok : ∀ x ∈ L, okp x) {s t : Int} (h : s ≤ t) : rs L s ≤ rs L t := by
  induction L with
  | nil => simp [rs_nil]
  | cons x L ih =>
    rw [rs_cons, rs_cons]
    have a := ih (fun y hy => hok y (List.mem_cons_of_mem _ hy))
    obtain ⟨e1, _, e2, _⟩ := hok x (List.mem_cons_self ..)
    have b := cl_mono e1 h
    have c : rq x s ≤ rq x t := Int.mul_le_mul_of_nonneg_left b (by omega)
    omega
theorem lev_mono {l : List S39} (hok : ∀ x ∈ l, okp x) (j : Nat) {s t : Int} (h : s ≤ t) : lev l j s ≤ lev l j t := by
  have := rs_mono (ahl_ok hok (i := j)) h
  unfold lev; omega
theorem lev_pos {l : List S39} (hok : ∀ x ∈ l, okp x) {j : Nat} (hj : j < l.length) {t : Int} (h0 : 0 ≤ t) (h1 : t ≤ 1073741824) : 1 ≤ lev l j t ∧ (rd_T39 l (j : Int)).f1 ≤ lev l j t := by
  have a := rs_bounds (ahl_ok hok (i := j)) h0 (show t ≤ 2147483648 by omega)
  obtain ⟨_, _, c, _⟩ := hok _ (List.getElem_mem hj)
  rw [← rd_get hj] at c
  unfold lev; omega

theorem fold_ge : ∀ (R : List (Int × Int)) (n : Int), (∀ x ∈ R, okr x) → 0 ≤ n → n ≤ R.foldl (fun n x => wt x.1 x.2 n) n
  | [], n, _, _ => Int.le_refl _
  | x :: r, n, h, h0 => by
    have a := (h x (List.mem_cons_self ..)).wt_ge h0
    have b := fold_ge r (wt x.1 x.2 n) (fun y hy => h y (List.mem_cons_of_mem _ hy)) (by omega)
    simp only [List.foldl]; omega
theorem Thr_err : ∀ (R : List S48) (n : Int), (∀ x ∈ R, okr (pr x)) → 0 ≤ n → n ≤ 1073741824 → ∀ e, supply_Through.l0 R n = some (0, some e) → 1073741824 < (R.map pr).foldl (fun n x => wt x.1 x.2 n) n
  | [], n, _, _, _, e, he => by simp [supply_Through.l0] at he
  | x :: r, n, h, h0, h1, e, he => by
    obtain ⟨a, b, c⟩ := h x (List.mem_cons_self ..)
    simp only [pr] at a b c
    have hw := (h x (List.mem_cons_self ..)).wt_ge h0
    simp only [pr] at hw
    simp only [supply_Through.l0] at he
    rw [wait_ok a b c h0 h1] at he
    by_cases hm : wt x.f0 x.f1 n ≤ 1073741824
    · rw [if_pos hm] at he
      simp only [Option.bind_some, Option.isNone_none, if_true] at he
      exact Thr_err r (wt x.f0 x.f1 n) (fun y hy => h y (List.mem_cons_of_mem _ hy)) (by omega) hm e he
    · have := fold_ge (r.map pr) (wt x.f0 x.f1 n) (fun y hy => by obtain ⟨z, hz, rfl⟩ := List.mem_map.1 hy; exact h z (List.mem_cons_of_mem _ hz)) (by omega)
      show 1073741824 < (r.map pr).foldl (fun n x => wt x.1 x.2 n) (wt x.f0 x.f1 n)
      omega
theorem oks {m : List S48} (hm : ∀ x ∈ m, okr (pr x)) : ∀ x ∈ m.map pr, okr x := by
  intro y hy; obtain ⟨z, hz, rfl⟩ := List.mem_map.1 hy; exact hm z hz
theorem Through_ok {m : List S48} (h8 : m.length ≤ 8) (hm : ∀ x ∈ m, okr (pr x)) {n : Int} (hn : 1 ≤ n) :
    (∃ e, supply_Through.f m n = some (0, some e) ∧ ∀ t : Int, 0 ≤ t → t ≤ 1048576 → dn (m.map pr) t < n) ∨ supply_Through.f m n = some (thr (m.map pr) n, none) := by
  unfold supply_Through.f
  rw [row_code (by omega)]
  by_cases hc : n ≤ 1073741824
  · rw [if_pos (rcode_ok.2 ⟨h8, hm, by omega, hc⟩)]
    simp only [Option.bind_some, Option.isNone_none, if_true]
    rcases Thr_l0 m.reverse n (fun x hx => hm x (List.mem_reverse.1 hx)) (by omega) hc with ⟨e, h⟩ | ⟨h, _⟩
    · refine .inl ⟨e, h, ?_⟩
      have := Thr_err m.reverse n (fun x hx => hm x (List.mem_reverse.1 hx)) (by omega) hc e h
      rw [List.map_reverse, thr_foldl] at this
      intro t t0 t1
      have := (not_congr (thr_iff (oks hm) hn t)).2 (by omega)
      omega
    · rw [List.map_reverse, thr_foldl] at h
      exact .inr h
  · have hcc : rcode m n ≠ 0 := fun h => hc (rcode_ok.1 h).2.2.2
    rw [if_neg hcc]
    refine .inl ⟨rcode m n, rfl, ?_⟩
    intro t t0 t1
    have := dn_le (oks hm) t0
    omega

/-- an entry is in time -/
def fitAt (l : List S39) (m : List S48) (j : Nat) : Prop := ∃ t : Int, 1 ≤ t ∧ t ≤ (rd_T39 l (j : Int)).f2 ∧ lev l j t ≤ dn (m.map pr) t
theorem time_ok {l : List S39} {m : List S48} (h8 : l.length ≤ 8) (hok : ∀ x ∈ l, okp x) (hm8 : m.length ≤ 8) (hm : ∀ x ∈ m, okr (pr x)) {j : Nat} (hj : j < l.length) :
    (∃ v : Int, Evt (fun k => response_time.f k l (j : Int) m) (v, true) ∧ 1 ≤ v ∧ v ≤ (rd_T39 l (j : Int)).f2 ∧ lev l j v ≤ dn (m.map pr) v ∧ ∀ s : Int, 1 ≤ s → s < v → dn (m.map pr) s < lev l j s) ∨
    (Evt (fun k => response_time.f k l (j : Int) m) (0, false) ∧ ∀ s : Int, 1 ≤ s → s ≤ (rd_T39 l (j : Int)).f2 → dn (m.map pr) s < lev l j s) := by
  have hx := hok _ (List.getElem_mem hj)
  rw [← rd_get hj] at hx
  obtain ⟨a1, a2, _, _, a3, a4, _⟩ := hx
  have main : ∀ (d : Nat) (t : Int), t + d = (rd_T39 l (j : Int)).f2 + 1 → 1 ≤ t → (∀ s : Int, 1 ≤ s → s < t → dn (m.map pr) s < lev l j s) →
      (∃ v : Int, Evt (fun k => response_time.l0 k l (j : Int) m t) (v, true) ∧ 1 ≤ v ∧ v ≤ (rd_T39 l (j : Int)).f2 ∧ lev l j v ≤ dn (m.map pr) v ∧ ∀ s : Int, 1 ≤ s → s < v → dn (m.map pr) s < lev l j s) ∨
      (Evt (fun k => response_time.l0 k l (j : Int) m t) (0, false) ∧ ∀ s : Int, 1 ≤ s → s ≤ (rd_T39 l (j : Int)).f2 → dn (m.map pr) s < lev l j s) := by
    intro d
    induction d using Nat.strongRecOn with
    | _ d ih =>
      intro t hd t0 hyp
      have late : ∀ u : Int, u > (rd_T39 l (j : Int)).f2 → Evt (fun k => response_time.l0 k l (j : Int) m u) (0, false) := by
        intro u hu
        refine Evt.succ ?_
        simp only [response_time.l0]
        exact Evt.ifp (by omega) (Evt.ifp (by omega) (Evt.ifp hu (Evt.pure fun _ => rfl)))
      by_cases hgt : t > (rd_T39 l (j : Int)).f2
      · exact .inr ⟨late t hgt, fun s s0 s1 => hyp s s0 (by omega)⟩
      · have p1 := (Level_ok h8 hok hj (t := t) (by omega) (by omega)).1
        have p2 := Down_evt (t := t) hm8 hm (by omega) (by omega)
        have hL := (lev_pos hok hj (t := t) (by omega) (by omega)).1
        have go1 : ∀ r, Evt (fun k => if lev l j t ≤ dn (m.map pr) t then some (t, true) else (supply_Through.f m (lev l j t)).bind fun bt => if bt.2.isNone = true then (if bt.1 > t then response_time.l0 k l (j : Int) m bt.1 else response_time.l0 k l (j : Int) m (wrap64 (t + 1))) else some (0, false)) r → Evt (fun k => response_time.l0 k l (j : Int) m t) r := by
          intro r h
          refine Evt.succ ?_
          simp only [response_time.l0]
          exact Evt.ifp (by omega) (Evt.ifp (by omega) (Evt.ifn hgt (Evt.bind p1 (Evt.bind p2 h))))
        by_cases hle : lev l j t ≤ dn (m.map pr) t
        · exact .inl ⟨t, go1 _ (Evt.ifp hle (Evt.pure fun _ => rfl)), t0, by omega, hle, hyp⟩
        · rcases Through_ok hm8 hm hL with ⟨e, q1, q2⟩ | q1
          · refine .inr ⟨go1 _ (Evt.ifn hle (Evt.call q1 (Evt.ifn (by simp) (Evt.pure fun _ => rfl)))), fun s s0 s1 => ?_⟩
            by_cases hst : s < t
            · exact hyp s s0 hst
            · have u1 := q2 s (by omega) (by omega)
              have u2 := lev_mono hok j (show t ≤ s by omega)
              omega
          · have hxt : t < thr (m.map pr) (lev l j t) := by
              have := (not_congr (thr_iff (oks hm) hL t)).1 hle
              omega
            have skip : ∀ s : Int, 1 ≤ s → s < thr (m.map pr) (lev l j t) → dn (m.map pr) s < lev l j s := by
              intro s s0 s1
              by_cases hst : s < t
              · exact hyp s s0 hst
              · have u1 := (not_congr (thr_iff (oks hm) hL s)).2 (by omega)
                have u2 := lev_mono hok j (show t ≤ s by omega)
                omega
            by_cases hxd : thr (m.map pr) (lev l j t) > (rd_T39 l (j : Int)).f2
            · exact .inr ⟨go1 _ (Evt.ifn hle (Evt.call q1 (Evt.ifp rfl (Evt.ifp hxt (late _ hxd))))), fun s s0 s1 => skip s s0 (by omega)⟩
            · rcases ih ((rd_T39 l (j : Int)).f2 + 1 - thr (m.map pr) (lev l j t)).toNat (by omega) _ (by omega) (by omega) skip with ⟨v, y1, y2⟩ | ⟨y1, y2⟩
              · exact .inl ⟨v, go1 _ (Evt.ifn hle (Evt.call q1 (Evt.ifp rfl (Evt.ifp hxt y1)))), y2⟩
              · exact .inr ⟨go1 _ (Evt.ifn hle (Evt.call q1 (Evt.ifp rfl (Evt.ifp hxt y1)))), y2⟩
  exact main (rd_T39 l (j : Int)).f2.toNat 1 (by omega) (by omega) (fun s s0 s1 => absurd s1 (by omega))
theorem all_ok {l : List S39} {m : List S48} (h8 : l.length ≤ 8) (hok : ∀ x ∈ l, okp x) (hm8 : m.length ≤ 8) (hm : ∀ x ∈ m, okr (pr x)) :
    ∃ L b, Evt (fun k => response_all.f k l m) (L, b) ∧ (b = true ↔ ∀ j : Nat, j < l.length → fitAt l m j) := by
  have key : ∀ (d i : Nat) (acc : List Int), i + d = l.length → acc.length = i → (∀ j : Nat, j < i → fitAt l m j) → ∃ L b, Evt (fun k => response_all.l0 k l m acc (l.length : Int) i) (L, b) ∧ (b = true ↔ ∀ j : Nat, j < l.length → fitAt l m j) := by
    intro d
    induction d with
    | zero =>
      intro i acc hi ha hf
      refine ⟨acc, true, Evt.succ (Evt.pure fun k => ?_), fun _ j hj => hf j (by omega), fun _ => rfl⟩
      simp only [response_all.l0]; rw [if_neg (by omega)]
    | succ d ih =>
      intro i acc hi ha hf
      rcases time_ok h8 hok hm8 hm (j := i) (by omega) with ⟨v, q1, q2, q3, q4, _⟩ | ⟨q1, q2⟩
      · obtain ⟨L, b, y1, y2⟩ := ih (i + 1) (acc ++ [v]) (by omega) (by simp; omega) (fun j hj => by
          by_cases e : j = i
          · subst e; exact ⟨v, q2, q3, q4⟩
          · exact hf j (by omega))
        refine ⟨L, b, Evt.succ ?_, y2⟩
        simp only [response_all.l0]
        rw [w1 i (by omega)]
        exact Evt.ifp (by omega) (Evt.bind q1 (Evt.ifp rfl (Evt.ifp (by omega) y1)))
      · refine ⟨[], false, Evt.succ ?_, fun h => absurd h (by simp), fun h => ?_⟩
        · simp only [response_all.l0]
          exact Evt.ifp (by omega) (Evt.bind q1 (Evt.ifn (by simp) (Evt.pure fun _ => rfl)))
        · obtain ⟨t, t0, t1, t2⟩ := h i (by omega)
          have := q2 t t0 t1
          omega
  obtain ⟨L, b, h1, h2⟩ := key l.length 0 [] (by omega) rfl (fun j hj => absurd hj (by omega))
  exact ⟨L, b, h1, h2⟩

/-- work with another cost of one entry -/
theorem fc_row {l : List S39} {m : List S48} (h : fc l m = 0) : m.length ≤ 8 ∧ ∀ x ∈ m, okr (pr x) := by
  have hv := (fc_ok h)
  unfold fc at h
  rw [if_pos (vcode_ok.2 hv)] at h
  have := rcode_ok.1 h
  exact ⟨this.1, this.2.1⟩
theorem Fits_ok {l : List S39} {m : List S48} (h : fc l m = 0) : ∃ b : Bool, Evt (fun k => response_Fits.f k l m) (if b = true then none else some 220) ∧ (b = true ↔ ∀ j : Nat, j < l.length → fitAt l m j) := by
  obtain ⟨h8, hok⟩ := fc_ok h
  obtain ⟨hm8, hm⟩ := fc_row h
  have hc := check_evt (l := l) (m := m) (by omega) (by omega)
  rw [if_pos h] at hc
  obtain ⟨L, b, q1, q2⟩ := all_ok h8 hok hm8 hm
  refine ⟨b, ?_, q2⟩
  unfold response_Fits.f response_All.f
  cases b with
  | true => exact Evt.bind (Evt.bind hc (Evt.ifp rfl (Evt.bind q1 (Evt.ifp rfl (Evt.pure fun _ => rfl))))) (Evt.pure fun _ => rfl)
  | false => exact Evt.bind (Evt.bind hc (Evt.ifp rfl (Evt.bind q1 (Evt.ifn (by simp) (Evt.pure fun _ => rfl))))) (Evt.pure fun _ => rfl)
end Go.Proofs.Ytffckkjaeekanaa.Pure
