/- Rows of reservations and work: the errors, what comes down a row: the program's answers and the document's are one. No conditions. -/
import Derived.Test.YtdonlmbhamcjdaaRRRRLevel
import Derived.Test.YtdonlmbhamcjdaaRRRRSup
import Derived.Test.YtdonlmbhamcjdaaRRRFx3
import Derived.Test.YtdonlmbhamcjdaaRRRFx9
namespace Go.Proofs.YtdonlmbhamcjdaaRRR.Pure
open Go Go.RowKit Tithe Go.Proofs.YtdonlmbhamcjdaaRRR.F Go.Proofs.YtdonlmbhamcjdaaRRRW.PrintWords Go.Proofs.YtdonlmbhamcjdaaRRRW.PrintLast Go.Proofs.YtdonlmbhamcjdaaRRRW.PrintMore

instance (x : Int × Int) : Decidable (okr x) := by unfold okr; infer_instance
/-- the error of a row of reservations and a number -/
def rcode (l : List S64) (t : Int) : Int := if t < 0 ∨ t > 1073741824 then 1 else if ∀ x ∈ l, okr (pr x) then (if l.length > 8 then 3 else 0) else 2
theorem row_code {l : List S64} (hl : l.length ≤ 140737488351232) (t : Int) : supply_row.f l t = some (if rcode l t = 0 then none else some (rcode l t)) := by
  unfold supply_row.f rcode
  rw [if_pos hl]
  by_cases h1 : t < 0 ∨ t > 1073741824
  · rw [if_pos h1, if_pos h1]; rfl
  · rw [if_neg h1, if_neg h1]
    by_cases h2 : l.any supply_row.bad = true
    · rw [if_pos h2]
      have : ¬ ∀ x ∈ l, okr (pr x) := by
        obtain ⟨x, hx, hb⟩ := List.any_eq_true.1 h2
        intro h
        rw [(bad_iff x).2 (h x hx)] at hb; simp at hb
      rw [if_neg this]; rfl
    · rw [if_neg h2]
      have : ∀ x ∈ l, okr (pr x) := by
        rw [Bool.not_eq_true, List.any_eq_false] at h2
        intro x hx
        exact (bad_iff x).1 (by simpa using h2 x hx)
      rw [if_pos this]
      by_cases h3 : (l.length : Int) > 8
      · rw [if_pos h3, if_pos (show l.length > 8 by omega)]; rfl
      · rw [if_neg h3, if_neg (show ¬ l.length > 8 by omega)]; rfl
theorem rcode_ok {l : List S64} {t : Int} : rcode l t = 0 ↔ (l.length ≤ 8 ∧ (∀ x ∈ l, okr (pr x)) ∧ 0 ≤ t ∧ t ≤ 1073741824) := by
  unfold rcode
  by_cases h1 : t < 0 ∨ t > 1073741824
  · rw [if_pos h1]; constructor
    · intro h; omega
    · rintro ⟨_, _, a, b⟩; omega
  · rw [if_neg h1]
    by_cases h2 : ∀ x ∈ l, okr (pr x)
    · rw [if_pos h2]
      by_cases h3 : l.length > 8
      · rw [if_pos h3]; constructor
        · intro h; omega
        · rintro ⟨a, _⟩; omega
      · rw [if_neg h3]; exact ⟨fun _ => ⟨by omega, h2, by omega, by omega⟩, fun _ => rfl⟩
    · rw [if_neg h2]; constructor
      · intro h; omega
      · rintro ⟨_, h, _⟩; exact absurd h h2
theorem ref_valid (x : S64) : titheref01_Valid.f x.f0 x.f1 = some (if okr (pr x) then 0 else 2) := by
  unfold titheref01_Valid.f
  by_cases h : okr (pr x)
  · have h' := h
    unfold okr pr at h'
    simp only [] at h'
    rw [if_pos h, if_neg (by omega), if_neg (by omega), if_neg (by omega)]
  · have h' := h
    unfold okr pr at h'
    simp only [] at h'
    rw [if_neg h]
    repeat' (first | rfl | split | (exfalso; apply h'; omega))
theorem time21_eq (t : Int) : titheref21_time.f t = some (decide (¬ (t < 0 ∨ t > 1073741824))) := by
  unfold titheref21_time.f
  by_cases h : t ≥ 0
  · rw [if_pos h]
    by_cases h2 : t ≤ 1073741824
    · rw [decide_eq_true h2, decide_eq_true (by omega)]
    · rw [decide_eq_false h2, decide_eq_false (by omega)]
  · rw [if_neg h, decide_eq_false (by omega)]
theorem refrow_evt {l : List S64} (hl : l.length ≤ 140737488351232) (t : Int) : Evt (fun k => titheref21_row.f k l t) (rcode l t) := by
  unfold titheref21_row.f rcode
  refine Evt.call (time21_eq t) ?_
  by_cases h1 : t < 0 ∨ t > 1073741824
  · rw [if_pos h1, decide_eq_false (by omega)]; exact Evt.ifn (by simp) (Evt.pure fun _ => rfl)
  · rw [if_neg h1, decide_eq_true h1]
    refine Evt.ifp rfl ?_
    have key : ∀ (d i : Nat), i + d = l.length → (∀ x ∈ l.take i, okr (pr x)) → Evt (fun k => titheref21_row.l0 k l i) (if ∀ x ∈ l, okr (pr x) then (if l.length > 8 then 3 else 0) else 2) := by
      intro d
      induction d with
      | zero =>
        intro i hi hall
        refine Evt.succ (Evt.pure fun k => ?_)
        simp only [titheref21_row.l0]
        rw [List.take_of_length_le (by omega)] at hall
        rw [if_neg (by omega), if_pos hall]
        by_cases h3 : l.length > 8
        · rw [if_pos (by omega), if_pos h3]
        · rw [if_neg (by omega), if_neg h3]
      | succ d ih =>
        intro i hi hall
        refine Evt.succ ?_
        simp only [titheref21_row.l0]
        rw [w1 i (by omega)]
        refine Evt.ifp (by omega) (Evt.ifp (by omega) (Evt.call (ref_valid _) ?_))
        rw [rd_get64 (by omega)]
        by_cases hx : okr (pr l[i])
        · rw [if_pos hx]
          refine Evt.ifp rfl (ih (i + 1) (by omega) ?_)
          rw [List.take_succ_eq_append_getElem (by omega)]
          intro x hx'
          rcases List.mem_append.1 hx' with h | h
          · exact hall x h
          · rw [List.mem_singleton.1 h]; exact hx
        · rw [if_neg hx]
          refine Evt.ifn (by omega) (Evt.pure fun _ => ?_)
          rw [if_neg (fun h => hx (h _ (List.getElem_mem _)))]
    exact key l.length 0 (by omega) (by simp)
theorem bound_eq (a b c : Int) : titheref21_bound.f a b c = supply_least.f a b c := by
  unfold titheref21_bound.f supply_least.f
  have hm : ∀ x y : Int, mx x y = mx y x := fun x y => by rw [mx_max, mx_max, Int.max_comm]
  rw [hm _ 0]

theorem Down_rel {l : List S64} (hl : l.length ≤ 140737488351232) (t : Int) : ∃ x e n, Evt (fun k => supply_Down.f k l t) (x, e) ∧ Evt (fun k => titheref21_Down.f k l t) (x, n) ∧ nm e = n := by
  have hr := refrow_evt hl t
  by_cases hc : rcode l t = 0
  · obtain ⟨h8, hok, h0, h1⟩ := rcode_ok.1 hc
    refine ⟨_, _, 0, Down_evt h8 hok h0 h1, ?_, rfl⟩
    unfold titheref21_Down.f
    rw [hc] at hr
    refine Evt.bind hr (Evt.ifp rfl ?_)
    have key : ∀ (d i : Nat) (u : Int), i + d = l.length → 0 ≤ u → u ≤ 1073741824 → Evt (fun k => titheref21_Down.l0 k l u i) (dn ((l.drop i).map pr) u, 0) := by
      intro d
      induction d with
      | zero =>
        intro i u hi hu0 hu1
        refine Evt.succ (Evt.pure fun k => ?_)
        simp only [titheref21_Down.l0]
        rw [if_neg (by omega), List.drop_of_length_le (by omega)]; rfl
      | succ d ih =>
        intro i u hi hu0 hu1
        refine Evt.succ ?_
        simp only [titheref21_Down.l0]
        rw [w1 i (by omega)]
        have hx := hok _ (List.getElem_mem (show i < l.length by omega))
        have hx' := hx
        obtain ⟨a, b, c⟩ := hx'
        simp only [pr] at a b c
        have q0 := hx.lst_nonneg u
        have q1 := hx.lst_le hu0
        simp only [pr] at q0 q1
        refine Evt.ifp (by omega) (Evt.ifp (by omega) (Evt.call (a := lst l[i].f0 l[i].f1 u) ?_ ?_))
        · rw [rd_get64 (by omega), bound_eq]; exact least_ok (by omega) b (by omega) c hu0 hu1
        · have := ih (i + 1) (lst l[i].f0 l[i].f1 u) (by omega) q0 (by omega)
          rw [List.drop_eq_getElem_cons (show i < l.length by omega)]
          exact this
    have := key l.length 0 t (by omega) h0 h1
    simpa using this
  · refine ⟨0, some (rcode l t), rcode l t, ?_, ?_, rfl⟩
    · unfold supply_Down.f
      refine Evt.call (row_code hl t) ?_
      rw [if_neg hc]
      exact Evt.ifn (by simp) (Evt.pure fun _ => rfl)
    · unfold titheref21_Down.f
      exact Evt.bind hr (Evt.ifn hc (Evt.pure fun _ => rfl))

/-- the error of work and a row of reservations -/
def fc (l : List S43) (m : List S64) : Int := if vcode l = 0 then rcode m 0 else vcode l
theorem check_evt {l : List S43} {m : List S64} (hl : l.length ≤ 4398046511104) (hm : m.length ≤ 140737488351232) : Evt (fun k => response_check.f k l m) (if fc l m = 0 then none else some (fc l m)) := by
  unfold response_check.f fc
  refine Evt.bind (Valid_evt l hl) ?_
  by_cases hv : vcode l = 0
  · rw [if_pos hv]
    unfold verr
    rw [if_pos hv]
    refine Evt.ifp rfl ?_
    by_cases hc : rcode m 0 = 0
    · obtain ⟨h8, hok, h0, h1⟩ := rcode_ok.1 hc
      rw [if_pos hc]
      exact Evt.bind (Down_evt h8 hok h0 h1) (Evt.pure fun _ => rfl)
    · rw [if_neg hc]
      refine Evt.bind (a := (0, some (rcode m 0))) ?_ (Evt.pure fun _ => rfl)
      unfold supply_Down.f
      refine Evt.call (row_code hm 0) ?_
      rw [if_neg hc]
      exact Evt.ifn (by simp) (Evt.pure fun _ => rfl)
  · rw [if_neg hv, if_neg hv]
    unfold verr
    rw [if_neg hv]
    exact Evt.ifn (by simp) (Evt.pure fun _ => rfl)
theorem fc_ok {l : List S43} {m : List S64} (h : fc l m = 0) : l.length ≤ 8 ∧ ∀ x ∈ l, okp x := by
  unfold fc at h
  by_cases hv : vcode l = 0
  · exact vcode_ok.1 hv
  · rw [if_neg hv] at h; exact absurd h hv
end Go.Proofs.YtdonlmbhamcjdaaRRR.Pure
