/- Proved here: PlanTight answers true at all work, every period and every number more. No conditions. -/
import Derived.Test.YtelihhegkdjdoaaDefPlanTight
import Derived.Test.YtelihhegkdjdoaaPlanBase
import Derived.Test.YtelihhegkdjdoaaPx8
import Derived.Test.YtelihhegkdjdoaaPx9
namespace Go.Proofs.Ytelihhegkdjdoaa.Pure
open Go Go.RowKit Tithe Go.Proofs.Ytelihhegkdjdoaa.P Go.Proofs.YtelihhegkdjdoaaW.PrintWords Go.Proofs.YtelihhegkdjdoaaW.PrintLast Go.Proofs.YtelihhegkdjdoaaW.PrintMore

theorem sure23 : tithelaw23_sure.f 60 = some true := by decide +kernel
theorem sure23_evt : Evt (fun k => tithelaw23_sure.f k) true := Evt.of_mono (fun k => tithelaw23_sure.mono k) sure23

/-- below one reservation all is in time -/
def FF (l : List S42) (q p : Int) : Prop := fc l [⟨q, p⟩] = 0 ∧ ∀ j : Nat, j < l.length → fitAt l [⟨q, p⟩] j
theorem fc_one {l : List S42} {q p : Int} : fc l [⟨q, p⟩] = 0 ↔ vcode l = 0 ∧ okr (q, p) := by
  unfold fc
  by_cases hv : vcode l = 0
  · rw [if_pos hv, rcode_ok]
    constructor
    · rintro ⟨_, h, _⟩; exact ⟨hv, h _ (List.mem_singleton.2 rfl)⟩
    · rintro ⟨_, h⟩
      refine ⟨by simp, fun x hx => ?_, by omega, by omega⟩
      rw [List.mem_singleton.1 hx]; exact h
  · rw [if_neg hv]
    exact ⟨fun h => absurd h hv, fun h => absurd h.1 hv⟩
theorem FF_ok {l : List S42} {q p : Int} (h : FF l q p) : vcode l = 0 ∧ okr (q, p) := fc_one.1 h.1
theorem FF_mono {l : List S42} {q q' p : Int} (h : FF l q p) (hq : q ≤ q') (hp : q' ≤ p) : FF l q' p := by
  obtain ⟨hv, a, b, c⟩ := FF_ok h
  simp only [] at a b c
  refine ⟨fc_one.2 ⟨hv, by show 1 ≤ q'; omega, hp, c⟩, fun j hj => ?_⟩
  obtain ⟨t, t0, t1, t2⟩ := h.2 j hj
  refine ⟨t, t0, t1, ?_⟩
  have := lst_mono_q (q := q) (q' := q') (p := p) (t := t) (by omega) hq hp
  simp only [List.map_cons, List.map_nil, pr, dn] at t2 ⊢
  omega
/-- Fits' error -/
theorem Fits_any {l : List S42} (hl : l.length ≤ 4398046511104) (q p : Int) :
    ∃ e : Option Int, Evt (fun k => response_Fits.f k l [⟨q, p⟩]) e ∧ (e = none ↔ FF l q p) ∧ (fc l [⟨q, p⟩] = 0 → e = none ∨ e = some 220) := by
  by_cases h : fc l [⟨q, p⟩] = 0
  · obtain ⟨b, q1, q2⟩ := Fits_ok h
    refine ⟨_, q1, ?_, fun _ => ?_⟩
    · cases b with
      | true => exact ⟨fun _ => ⟨h, q2.1 rfl⟩, fun _ => rfl⟩
      | false => exact ⟨fun h => by simp at h, fun h => by have := q2.2 h.2; simp at this⟩
    · cases b with
      | true => exact .inl rfl
      | false => exact .inr rfl
  · have hc := check_evt (l := l) (m := [⟨q, p⟩]) hl (by simp)
    rw [if_neg h] at hc
    refine ⟨some (fc l [⟨q, p⟩]), ?_, ⟨fun h => by simp at h, fun hf => absurd hf.1 h⟩, fun hf => absurd hf h⟩
    unfold response_Fits.f response_All.f
    exact Evt.bind (Evt.bind hc (Evt.ifn (by simp) (Evt.pure fun _ => rfl))) (Evt.pure fun _ => rfl)
theorem pfits {l : List S42} {q p : Int} {e : Option Int} (h : Evt (fun k => response_Fits.f k l [⟨q, p⟩]) e) : Evt (fun k => plan_fits.f k l [] q p) e := by
  unfold plan_fits.f
  exact Evt.ifp (by simp) (Evt.call rfl (Evt.ifp (by simp) (Evt.bind h (Evt.pure fun _ => rfl))))

theorem Least_loop {l : List S42} (hl : l.length ≤ 4398046511104) {p : Int} (hp : p ≤ 1048576) :
    ∀ (d : Nat) (lo up : Int), up - lo ≤ d → 0 ≤ lo → lo < up → up ≤ p → (lo = 0 ∨ ¬ FF l lo p) → FF l up p →
      ∃ Q : Int, Evt (fun k => plan_Least.l0 k l [] p lo up) (Q, p, none) ∧ 1 ≤ Q ∧ Q ≤ p ∧ FF l Q p ∧ (Q = 1 ∨ ¬ FF l (Q - 1) p) := by
  intro d
  induction d with
  | zero => intro lo up hd h0 h1; omega
  | succ d ih =>
    intro lo up hd h0 h1 h2 hlo hup
    by_cases hc : up - lo > 1
    · have hmid : wrap64 (Int.tdiv (wrap64 (lo + up)) 2) = (lo + up) / 2 := by
        rw [w64 (n := lo + up) (by omega) (by omega), tdiv_pos (by omega), w64 (by omega) (by omega)]
      obtain ⟨e, q1, q2, _⟩ := Fits_any hl ((lo + up) / 2) p
      have go1 : ∀ r, Evt (fun k => if e.isNone = true then plan_Least.l0 k l [] p lo ((lo + up) / 2) else plan_Least.l0 k l [] p ((lo + up) / 2) up) r → Evt (fun k => plan_Least.l0 k l [] p lo up) r := by
        intro r h
        refine Evt.succ ?_
        simp only [plan_Least.l0]
        rw [w64 (n := up - lo) (by omega) (by omega), hmid]
        exact Evt.ifp hc (Evt.bind (pfits q1) h)
      cases e with
      | none =>
        obtain ⟨Q, y1, y2⟩ := ih lo ((lo + up) / 2) (by omega) h0 (by omega) (by omega) hlo (q2.1 rfl)
        exact ⟨Q, go1 _ (Evt.ifp rfl y1), y2⟩
      | some e =>
        obtain ⟨Q, y1, y2⟩ := ih ((lo + up) / 2) up (by omega) (by omega) (by omega) h2 (.inr (fun h => by have := q2.2 h; simp at this)) hup
        exact ⟨Q, go1 _ (Evt.ifn (by simp) y1), y2⟩
    · obtain rfl : up = lo + 1 := by omega
      refine ⟨lo + 1, Evt.succ ?_, by omega, h2, hup, ?_⟩
      · simp only [plan_Least.l0]
        rw [w64 (n := lo + 1 - lo) (by omega) (by omega)]
        exact Evt.ifn hc (Evt.pure fun _ => rfl)
      · rcases hlo with h | h
        · exact .inl (by omega)
        · exact .inr (by rw [show lo + 1 - 1 = lo by omega]; exact h)
theorem Least_ok {l : List S42} (hl : l.length ≤ 4398046511104) (p : Int) :
    (∃ Q : Int, Evt (fun k => plan_Least.f k l [] p) (Q, p, none) ∧ 1 ≤ Q ∧ Q ≤ p ∧ p ≤ 1048576 ∧ FF l Q p ∧ FF l p p ∧ (Q = 1 ∨ ¬ FF l (Q - 1) p)) ∨
    (∃ e : Int, Evt (fun k => plan_Least.f k l [] p) (0, 0, some e) ∧ ¬ FF l p p ∧ (1 ≤ p → p ≤ 1048576 → vcode l = 0 → e = 220)) := by
  have bad : ∀ b : Bool, b = true → Evt (fun k => plan_Least.j0 k l [] p b) (0, 0, some 2) := by
    rintro b rfl
    refine Evt.succ ?_
    simp only [plan_Least.j0]
    exact Evt.ifp (by simp) (Evt.pure fun _ => rfl)
  unfold plan_Least.f
  by_cases h1 : p < 1
  · refine .inr ⟨2, Evt.ifp h1 (bad true rfl), fun h => ?_, fun h => by omega⟩
    obtain ⟨_, a, _, _⟩ := FF_ok h
    simp only [] at a; omega
  · by_cases h2 : p > 1048576
    · refine .inr ⟨2, Evt.ifn h1 (bad _ (decide_eq_true h2)), fun h => ?_, fun _ h => by omega⟩
      obtain ⟨_, _, _, a⟩ := FF_ok h
      simp only [] at a; omega
    · obtain ⟨e, q1, q2, q3⟩ := Fits_any hl p p
      have go1 : ∀ r, Evt (fun k => if e.isNone = true then plan_Least.l0 k l [] p 0 p else some (0, 0, some (e.getD 0))) r → Evt (fun k => if p < 1 then plan_Least.j0 k l [] p true else plan_Least.j0 k l [] p (decide (p > 1048576))) r := by
        intro r h
        refine Evt.ifn h1 (Evt.succ ?_)
        simp only [plan_Least.j0]
        exact Evt.ifn (by simpa using h2) (Evt.bind (pfits q1) h)
      cases e with
      | none =>
        have hf := q2.1 rfl
        obtain ⟨Q, y1, y2, y3, y4, y5⟩ := Least_loop hl (p := p) (by omega) p.toNat 0 p (by omega) (by omega) (by omega) (by omega) (.inl rfl) hf
        exact .inl ⟨Q, go1 _ (Evt.ifp rfl y1), y2, y3, by omega, y4, hf, y5⟩
      | some e =>
        refine .inr ⟨e, go1 _ (Evt.ifn (by simp) (Evt.pure fun _ => rfl)), fun h => by have := q2.2 h; simp at this, fun a b c => ?_⟩
        rcases q3 (fc_one.2 ⟨c, a, Int.le_refl _, b⟩) with h | h
        · simp at h
        · exact Option.some.inj h

/-- a reservation's share -/
def units (q p : Int) : Int := (q * 1048576 + p - 1) / p
theorem units_le {q p : Int} (h : okr (q, p)) : 0 ≤ units q p ∧ units q p ≤ 1048576 := by
  obtain ⟨a, b, c⟩ := h
  simp only [] at a b c
  unfold units
  refine ⟨Int.ediv_nonneg (by omega) (by omega), ?_⟩
  have := Int.ediv_lt_of_lt_mul (a := q * 1048576 + p - 1) (b := 1048577) (c := p) (by omega) (by omega)
  omega
theorem units_w {q p : Int} (h : okr (q, p)) : wrap64 (Int.tdiv (wrap64 (wrap64 (wrap64 (q * 1048576) + p) - 1)) p) = units q p := by
  have hu := units_le h
  obtain ⟨a, b, c⟩ := h
  simp only [] at a b c
  unfold units at *
  rw [w64 (n := q * 1048576) (by omega) (by omega), w64 (n := q * 1048576 + p) (by omega) (by omega), w64 (n := q * 1048576 + p - 1) (by omega) (by omega), tdiv_pos (by omega), w64 (by omega) (by omega)]
theorem Share_ok {q p : Int} (h : okr (q, p)) : fixed_Share.f q p = some (units q p, none) := by
  have hw := units_w h
  obtain ⟨a, b, c⟩ := h
  simp only [] at a b c
  unfold fixed_Share.f
  rw [valid_ok a b c, ← hw]
  simp only [Option.bind_some, Option.isNone_none, if_true]
  rw [if_neg (by omega)]
theorem Units_ok {q p : Int} (h : okr (q, p)) : titheref01_Units.f q p = some (units q p) := by
  have hw := units_w h
  obtain ⟨a, b, c⟩ := h
  simp only [] at a b c
  unfold titheref01_Units.f
  rw [if_neg (by omega), hw]
theorem Valid01_ok {q p : Int} (h : okr (q, p)) : titheref01_Valid.f q p = some 0 := by
  obtain ⟨a, b, c⟩ := h
  simp only [] at a b c
  unfold titheref01_Valid.f
  rw [if_neg (by omega), if_neg (by omega), if_neg (by omega)]

theorem Best_go {l : List S42} (hl : l.length ≤ 4398046511104) (hv : vcode l = 0) {L : List Int} (hL : L.length ≤ 64) (hx : ∀ x ∈ L, 1 ≤ x ∧ x ≤ 1048576) :
    ∀ (d i : Nat) (bq bp : Int), i + d = L.length → okr (bq, bp) →
      ∃ q' p' : Int, Evt (fun k => plan_Best.l0 k l [] (units bq bp) L (L.length : Int) i bq bp) (q', p', none) ∧ okr (q', p') ∧ units q' p' ≤ units bq bp := by
  intro d
  induction d with
  | zero =>
    intro i bq bp hi hb
    refine ⟨bq, bp, Evt.succ ?_, hb, Int.le_refl _⟩
    simp only [plan_Best.l0]
    have := units_le hb
    exact Evt.ifn (by omega) (Evt.ifn (by omega) (Evt.pure fun _ => rfl))
  | succ d ih =>
    intro i bq bp hi hb
    have hLi := hx _ (List.getElem_mem (show i < L.length by omega))
    have hrd : rd L (i : Int) = L[i] := by simp [rd, List.getD, List.getElem?_eq_getElem (show i < L.length by omega)]
    rcases Least_ok hl L[i] with ⟨Q, q1, q2, q3, q4, _⟩ | ⟨e, q1, _, q3⟩
    · have hr : okr (Q, L[i]) := ⟨q2, q3, q4⟩
      have go1 : ∀ r, Evt (fun k => if units Q L[i] < units bq bp then plan_Best.l0 k l [] (units Q L[i]) L (L.length : Int) ((i + 1 : Nat) : Int) Q L[i] else plan_Best.l0 k l [] (units bq bp) L (L.length : Int) ((i + 1 : Nat) : Int) bq bp) r → Evt (fun k => plan_Best.l0 k l [] (units bq bp) L (L.length : Int) i bq bp) r := by
        intro r h
        refine Evt.succ ?_
        simp only [plan_Best.l0]
        rw [hrd, w1 i (by omega)]
        exact Evt.ifp (by omega) (Evt.ifp (by omega) (Evt.ifp (by omega) (Evt.bind q1 (Evt.call (a := false) rfl (Evt.ifn (by simp) (Evt.ifp rfl (Evt.call (Share_ok hr) h)))))))
      by_cases hlt : units Q L[i] < units bq bp
      · obtain ⟨q', p', y1, y2, y3⟩ := ih (i + 1) Q L[i] (by omega) hr
        exact ⟨q', p', go1 _ (Evt.ifp hlt y1), y2, by omega⟩
      · obtain ⟨q', p', y1, y2, y3⟩ := ih (i + 1) bq bp (by omega) hb
        exact ⟨q', p', go1 _ (Evt.ifn hlt y1), y2, y3⟩
    · obtain rfl := q3 hLi.1 hLi.2 hv
      obtain ⟨q', p', y1, y2, y3⟩ := ih (i + 1) bq bp (by omega) hb
      refine ⟨q', p', Evt.succ ?_, y2, y3⟩
      simp only [plan_Best.l0]
      rw [hrd, w1 i (by omega)]
      exact Evt.ifp (by omega) (Evt.ifp (by omega) (Evt.ifp (by omega) (Evt.bind q1 (Evt.call (a := true) rfl (Evt.ifp rfl y1)))))
theorem Best_ok {l : List S42} (hl : l.length ≤ 4398046511104) (hv : vcode l = 0) {Q p : Int} (hq : Evt (fun k => plan_Least.f k l [] p) (Q, p, none)) (hr : okr (Q, p)) :
    ∃ q' p' : Int, Evt (fun k => plan_Best.f k l [] [p, 1, 2, 3]) (q', p', none) ∧ okr (q', p') ∧ units q' p' ≤ units Q p := by
  have hr' := hr
  obtain ⟨a, b, c⟩ := hr'
  simp only [] at a b c
  obtain ⟨q', p', y1, y2, y3⟩ := Best_go hl hv (L := [p, 1, 2, 3]) (by simp) (by
    intro x hx
    simp only [List.mem_cons, List.not_mem_nil, or_false] at hx
    omega) 3 1 Q p rfl hr
  refine ⟨q', p', ?_, y2, y3⟩
  unfold plan_Best.f
  have hu := units_le hr
  refine Evt.ifn (by simp) (Evt.ifn (by simp) (Evt.succ ?_))
  simp only [plan_Best.l0]
  refine Evt.ifp (by simp) (Evt.ifp (by omega) (Evt.ifp (by simp) (Evt.bind (a := (Q, p, none)) hq (Evt.call (a := false) rfl (Evt.ifn (by simp) (Evt.ifp rfl (Evt.call (Share_ok hr) (Evt.ifp (by show units Q p < 2097152; omega) ?_))))))))
  rw [w64 (n := 0 + 1) (by omega) (by omega)]
  exact y1

theorem one_more {l : List S42} (hl : l.length ≤ 4398046511104) {Q p : Int} (m : Int) (hq : Evt (fun k => plan_Least.f k l [] p) (Q, p, none)) (h1 : 1 ≤ Q) (h2 : Q ≤ p) (h3 : p ≤ 1048576) (h4 : FF l Q p) :
    Evt (fun k => tithelaw23_PlanTight.j1 k l p m false Q p) true := by
  have hc : wrap64 (wrap64 (p - Q) + 1) = p - Q + 1 := by rw [w64 (n := p - Q) (by omega) (by omega), w64 (by omega) (by omega)]
  have hu : IntKind.u64.wrap (p - Q + 1) = p - Q + 1 := u64_same (by omega) (by omega)
  obtain ⟨m0, m1⟩ := umod (n := m) (c := p - Q + 1) (by omega) (by omega)
  generalize hz : wrap64 (Int.tmod (IntKind.u64.wrap m) (p - Q + 1)) = z at m0 m1
  have hf := FF_mono h4 (show Q ≤ Q + z by omega) (by omega)
  obtain ⟨e, q1, q2, _⟩ := Fits_any hl (Q + z) p
  obtain rfl := q2.2 hf
  have hr : okr (Q, p) := ⟨h1, h2, h3⟩
  obtain ⟨bq, bp, b1, b2, b3⟩ := Best_ok hl (FF_ok h4).1 hq hr
  refine Evt.succ ?_
  simp only [tithelaw23_PlanTight.j1]
  rw [hc, hu, hz, w64 (n := Q + z) (by omega) (by omega)]
  exact Evt.ifn (by simp) (Evt.ifn (by omega) (Evt.bind q1 (Evt.ifp rfl (Evt.bind b1 (Evt.ifp rfl (Evt.call (Valid01_ok b2) (Evt.ifp rfl (Evt.call (Units_ok b2) (Evt.call (Units_ok hr) (Evt.ifp b3 (Evt.bind sure23_evt (Evt.pure fun _ => rfl))))))))))))

theorem PlanTight : tithelaw23_PlanTight.Pure := by
  intro l p m _ hl1 _ _ _
  refine Evt.ex ?_
  have hl : l.length ≤ 4398046511104 := by omega
  unfold tithelaw23_PlanTight.f
  obtain ⟨e, w1, w2, _⟩ := Fits_any hl p p
  rcases Least_ok hl p with ⟨Q, q1, q2, q3, q4, q5, q6, q7⟩ | ⟨e', q1, q2, q3⟩
  · obtain rfl := w2.2 q6
    obtain ⟨e2, v1, v2, _⟩ := Fits_any hl Q p
    obtain rfl := v2.2 q5
    refine Evt.bind q1 (Evt.bind w1 (Evt.ifp rfl (Evt.ifp rfl (Evt.ifn (by omega) (Evt.ifn (by omega) (Evt.ifp rfl (Evt.bind v1 (Evt.ifp rfl (Evt.succ ?_)))))))))
    simp only [tithelaw23_PlanTight.j0]
    refine Evt.ifn (by simp) ?_
    by_cases hQ : Q > 1
    · obtain ⟨e3, u1, u2, _⟩ := Fits_any hl (Q - 1) p
      rw [w64 (n := Q - 1) (by omega) (by omega)]
      refine Evt.ifp hQ (Evt.bind u1 (Evt.ifn ?_ (one_more hl m q1 q2 q3 q4 q5)))
      intro h
      have := u2.1 (Option.isNone_iff_eq_none.1 h)
      rcases q7 with h | h
      · omega
      · exact h this
    · exact Evt.ifn hQ (one_more hl m q1 q2 q3 q4 q5)
  · refine Evt.bind q1 (Evt.bind w1 (Evt.ifn (by simp) ?_))
    have hn : ¬ e.isNone = true := fun h => q2 (w2.1 (Option.isNone_iff_eq_none.1 h))
    by_cases hp : okr (p, p)
    · exact Evt.call (Valid01_ok hp) (Evt.ifp rfl (Evt.ifn hn (Evt.ifp rfl (Evt.bind sure23_evt (Evt.pure fun _ => rfl)))))
    · have : titheref01_Valid.f p p = some 2 := by
        unfold titheref01_Valid.f
        by_cases h1 : p < 1
        · rw [if_pos h1]
        · by_cases h2 : p > 1048576
          · rw [if_neg h1, if_pos h2]
          · exact absurd ⟨by show 1 ≤ p; omega, by show p ≤ p; omega, by show p ≤ 1048576; omega⟩ hp
      exact Evt.call this (Evt.ifn (by omega) (Evt.ifp rfl (Evt.bind sure23_evt (Evt.pure fun _ => rfl))))
end Go.Proofs.Ytelihhegkdjdoaa.Pure
