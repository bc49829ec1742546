/- Responses below rows of reservations: what the program's functions answer, as plain numbers. No conditions. -/
import Derived.Test.YtdonlmbhamcjdaaRRRPlB
import Derived.Test.YtdonlmbhamcjdaaRRRRsv
import Derived.Test.YtdonlmbhamcjdaaRRRJx5
import Derived.Test.YtdonlmbhamcjdaaRRRJx7
import Derived.Test.YtdonlmbhamcjdaaRRRJx5
import Derived.Test.YtdonlmbhamcjdaaRRRJx8
import Derived.Test.YtdonlmbhamcjdaaRRRJx4
import Derived.Test.YtdonlmbhamcjdaaRRRJx4
import Derived.Test.YtdonlmbhamcjdaaRRRJx7
import Derived.Test.YtdonlmbhamcjdaaRRRJx5
import Derived.Test.YtdonlmbhamcjdaaRRRJx9
namespace Go.Proofs.YtdonlmbhamcjdaaRRR.Pure
open Go Go.RowKit Tithe Go.Proofs.YtdonlmbhamcjdaaRRR.J Go.Proofs.YtdonlmbhamcjdaaRRRW.PrintWords Go.Proofs.YtdonlmbhamcjdaaRRRW.PrintLast Go.Proofs.YtdonlmbhamcjdaaRRRW.PrintMore
set_option linter.unusedVariables false
/-- what all entries of a list can ask for -/
def rs (L : List S43) (t : Int) : Int := (L.map fun x => rq x t).sum
theorem rs_cons (x : S43) (L : List S43) (t : Int) : rs (x :: L) t = rq x t + rs L t := by simp only [rs, List.map_cons, List.sum_cons]
theorem rs_nil (t : Int) : rs [] t = 0 := rfl
theorem rs_append (L M : List S43) (t : Int) : rs (L ++ M) t = rs L t + rs M t := by simp only [rs, List.map_append, List.sum_append]
theorem ahl_ok {l : List S43} (hok : ∀ x ∈ l, okp x) {i : Nat} : ∀ x ∈ ahl l i, okp x := by
  intro x hx
  obtain ⟨j, hj, rfl⟩ := List.mem_map.1 hx
  have hm := ol_mem.1 ((List.takeWhile_sublist _).subset hj)
  rw [rd_get hm]; exact hok _ (List.getElem_mem hm)
theorem ahl_len {l : List S43} {i : Nat} (hi : i < l.length) : (ahl l i).length < l.length := by
  obtain ⟨A, B, h, _, _, hn⟩ := ol_split hi
  have := ol_length l
  unfold ahl
  rw [h, take_split hn, List.length_map]
  rw [h, List.length_append, List.length_cons] at this; omega
theorem rs_bounds {L : List S43} (hok : ∀ x ∈ L, okp x) {t : Int} (h0 : 0 ≤ t) (h1 : t ≤ 2147483648) : 0 ≤ rs L t ∧ rs L t ≤ L.length * 2251799813685248 := by
  induction L with
  | nil => simp [rs_nil]
  | cons x L ih =>
    have hx := rq_bounds (hok x (List.mem_cons_self ..)) h0 h1
    have := ih (fun y hy => hok y (List.mem_cons_of_mem _ hy))
    rw [rs_cons, List.length_cons]; omega
theorem place_evt {l : List S43} (hl : l.length ≤ 4398046511104) (i : Int) : Evt (fun k => demand_place.f k l i) (if vcode l = 0 then (if 0 ≤ i ∧ i < l.length then none else some 1) else some (vcode l)) := by
  unfold demand_place.f
  refine Evt.bind (Valid_evt l hl) ?_
  by_cases hv : vcode l = 0
  · rw [if_pos hv]
    unfold verr
    rw [if_pos hv, w64 (n := (l.length : Int) - 1) (by omega) (by omega)]
    refine Evt.ifp rfl (Evt.call (is_eq _ _ _) ?_)
    by_cases hi : 0 ≤ i ∧ i < l.length
    · rw [if_pos hi, decide_eq_true (by omega)]; exact Evt.ifp rfl (Evt.pure fun _ => rfl)
    · rw [if_neg hi, decide_eq_false (by omega)]; exact Evt.ifn (by simp) (Evt.pure fun _ => rfl)
  · rw [if_neg hv]
    unfold verr
    rw [if_neg hv]
    exact Evt.ifn (by simp) (Evt.pure fun _ => rfl)
theorem mx_max (a b : Int) : mx a b = max a b := by unfold mx; omega
theorem valid_ok {q p : Int} (hq : 1 ≤ q) (hqp : q ≤ p) (hp : p ≤ 1048576) : fixed_Valid.f q p = some none := by
  unfold fixed_Valid.f; rw [if_neg (by omega), if_neg (by omega), if_neg (by omega)]
theorem least_ok {q p t : Int} (hq : 0 ≤ q) (hqp : q ≤ p) (hp0 : 1 ≤ p) (hp : p ≤ 1048576) (h0 : 0 ≤ t) (h1 : t ≤ 1073741824) : supply_least.f q p t = some (lst q p t) := by
  unfold supply_least.f lst fsup
  have e1 : wrap64 (p - q) = p - q := w64 (by omega) (by omega)
  rw [e1]
  by_cases h : t ≤ p - q
  · rw [if_pos h, if_pos h]
  · rw [if_neg h, if_neg (by omega), if_neg h]
    have e2 : wrap64 (t - (p - q)) = t - (p - q) := w64 (by omega) (by omega)
    rw [e2, tdiv_pos (by omega)]
    generalize hu : t - (p - q) = u
    have hk0 : 0 ≤ u / p := Int.ediv_nonneg (by omega) (by omega)
    have hm := Int.mul_ediv_add_emod u p
    have hr0 := Int.emod_nonneg u (b := p) (by omega)
    have hr1 := Int.emod_lt_of_pos u (b := p) (by omega)
    rw [Int.mul_comm] at hm
    have hkp : 0 ≤ u / p * p := Int.mul_nonneg hk0 (by omega)
    have hkq : 0 ≤ u / p * q := Int.mul_nonneg hk0 (by omega)
    have hkqp : u / p * q ≤ u / p * p := Int.mul_le_mul_of_nonneg_left hqp hk0
    have hku : u / p ≤ u / p * p := by have := Int.mul_le_mul_of_nonneg_left hp0 hk0; omega
    have e3 : wrap64 (u / p) = u / p := w64 (by omega) (by omega)
    have e4 : wrap64 (u / p * q) = u / p * q := w64 (by omega) (by omega)
    have e5 : wrap64 (u / p * p) = u / p * p := w64 (by omega) (by omega)
    rw [e3, e4, e5]
    have e6 : wrap64 (u - u / p * p) = u - u / p * p := w64 (by omega) (by omega)
    rw [e6]
    have e7 : wrap64 (u - u / p * p - (p - q)) = u - u / p * p - (p - q) := w64 (by omega) (by omega)
    rw [e7, mx_max, w64 (by omega) (by omega)]
theorem wait_ok {q p n : Int} (hq : 1 ≤ q) (hqp : q ≤ p) (hp : p ≤ 1048576) (h0 : 0 ≤ n) (h1 : n ≤ 1073741824) :
    supply_wait.f q p n = if wt q p n ≤ 1073741824 then some (wt q p n, none) else some (0, some 60) := by
  unfold supply_wait.f
  by_cases hn : n = 0
  · subst hn; rw [if_pos rfl, wt_zero, if_pos (by omega)]
  · rw [if_neg hn, if_neg (by omega)]
    have e0 : wrap64 (p - q) = p - q := w64 (by omega) (by omega)
    have e1 : wrap64 (n - 1) = n - 1 := w64 (by omega) (by omega)
    rw [e0, e1, tdiv_pos (by omega)]
    have hw : wt q p n = 2 * (p - q) + (n - 1) / q * p + n - (n - 1) / q * q := by unfold wt; rw [if_neg hn]
    have hk0 : 0 ≤ (n - 1) / q := Int.ediv_nonneg (by omega) (by omega)
    have hk1 : (n - 1) / q ≤ n - 1 := Int.ediv_le_self _ (by omega)
    generalize (n - 1) / q = k at hw hk0 hk1 ⊢
    have b1 : 0 ≤ k * p := Int.mul_nonneg hk0 (by omega)
    have b2 : k * p ≤ 1073741824 * 1048576 := Int.mul_le_mul (by omega) hp (by omega) (by omega)
    have b3 : 0 ≤ k * q := Int.mul_nonneg hk0 (by omega)
    have b4 : k * q ≤ 1073741824 * 1048576 := Int.mul_le_mul (by omega) (by omega) (by omega) (by omega)
    have e2 : wrap64 (2 * (p - q)) = 2 * (p - q) := w64 (by omega) (by omega)
    have e3 : wrap64 k = k := w64 (by omega) (by omega)
    rw [e2, e3]
    generalize k * p = kp at *
    generalize k * q = kq at *
    have e4 : wrap64 kp = kp := w64 (by omega) (by omega)
    have e5 : wrap64 kq = kq := w64 (by omega) (by omega)
    rw [e4, e5]
    have e6 : wrap64 (2 * (p - q) + kp) = 2 * (p - q) + kp := w64 (by omega) (by omega)
    rw [e6]
    have e7 : wrap64 (2 * (p - q) + kp + n) = 2 * (p - q) + kp + n := w64 (by omega) (by omega)
    rw [e7]
    have e8 : wrap64 (2 * (p - q) + kp + n - kq) = 2 * (p - q) + kp + n - kq := w64 (by omega) (by omega)
    rw [e8, hw]
/-- a reservation as a pair -/
def pr (x : S64) : Int × Int := (x.f0, x.f1)
theorem bad_iff (x : S64) : supply_row.bad x = false ↔ okr (pr x) := by
  unfold supply_row.bad okr pr
  rw [decide_eq_false_iff_not]
  constructor
  · intro h; exact ⟨by omega, by omega, by omega⟩
  · rintro ⟨a, b, c⟩; simp only [] at a b c; omega
theorem row_ok {l : List S64} {a : Int} (hl : l.length ≤ 8) (h : ∀ x ∈ l, okr (pr x)) (h0 : 0 ≤ a) (h1 : a ≤ 1073741824) : supply_row.f l a = some none := by
  unfold supply_row.f
  rw [if_pos (by omega), if_neg (by omega), if_neg, if_neg (by omega)]
  rw [Bool.not_eq_true, List.any_eq_false]
  intro x hx; rw [(bad_iff x).2 (h x hx)]; simp
theorem row_cases {l : List S64} {a : Int} (hl : l.length ≤ 140737488351232) :
    (∃ e, supply_row.f l a = some (some e)) ∨ (supply_row.f l a = some none ∧ l.length ≤ 8 ∧ (∀ x ∈ l, okr (pr x)) ∧ 0 ≤ a ∧ a ≤ 1073741824) := by
  unfold supply_row.f
  rw [if_pos hl]
  by_cases h1 : a < 0 ∨ a > 1073741824
  · rw [if_pos h1]; exact .inl ⟨_, rfl⟩
  · rw [if_neg h1]
    by_cases h2 : l.any supply_row.bad = true
    · rw [if_pos h2]; exact .inl ⟨_, rfl⟩
    · rw [if_neg h2]
      by_cases h3 : (l.length : Int) > 8
      · rw [if_pos h3]; exact .inl ⟨_, rfl⟩
      · rw [if_neg h3]
        refine .inr ⟨rfl, by omega, fun x hx => ?_, by omega, by omega⟩
        rw [Bool.not_eq_true, List.any_eq_false] at h2
        exact (bad_iff x).1 (by simpa using h2 x hx)
theorem rd_get64 {l : List S64} {i : Nat} (h : i < l.length) : rd_T64 l (i : Int) = l[i] := by
  simp [rd_T64, List.getD, List.getElem?_eq_getElem h]
theorem Down_evt {l : List S64} {t : Int} (hl : l.length ≤ 8) (h : ∀ x ∈ l, okr (pr x)) (h0 : 0 ≤ t) (h1 : t ≤ 1073741824) :
    Evt (fun k => supply_Down.f k l t) (dn (l.map pr) t, none) := by
  have key : ∀ (d i : Nat) (u : Int), i + d = l.length → 0 ≤ u → u ≤ 1073741824 → Evt (fun k => supply_Down.l0 k u l (l.length : Int) i) (dn ((l.drop i).map pr) u, none) := by
    intro d
    induction d with
    | zero =>
      intro i u hi hu0 hu1
      refine Evt.succ (Evt.pure fun k => ?_)
      simp only [supply_Down.l0]
      rw [if_neg (by omega), List.drop_of_length_le (by omega)]; rfl
    | succ d ih =>
      intro i u hi hu0 hu1
      refine Evt.succ ?_
      simp only [supply_Down.l0]
      rw [w1 i (by omega)]
      have hx := h _ (List.getElem_mem (show i < l.length by omega))
      have hx' := hx
      obtain ⟨a, b, c⟩ := hx'
      simp only [pr] at a b c
      have q0 := hx.lst_nonneg u
      have q1 := hx.lst_le hu0
      simp only [pr] at q0 q1
      refine Evt.ifp (by omega) (Evt.ifp (by omega) (Evt.ifp (by omega) (Evt.call (a := lst l[i].f0 l[i].f1 u) ?_ ?_)))
      · rw [rd_get64 (by omega)]; exact least_ok (by omega) b (by omega) c hu0 hu1
      · have := ih (i + 1) (lst l[i].f0 l[i].f1 u) (by omega) q0 (by omega)
        rw [List.drop_eq_getElem_cons (show i < l.length by omega)]
        exact this
  have := key l.length 0 t (by omega) h0 h1
  refine Evt.congr (g' := fun k => supply_Down.l0 k t l (l.length : Int) 0) (by simpa using this) ?_
  intro k
  unfold supply_Down.f
  rw [row_ok hl h h0 h1]; rfl
theorem Thr_l0 : ∀ (R : List S64) (n : Int), (∀ x ∈ R, okr (pr x)) → 0 ≤ n → n ≤ 1073741824 →
    (∃ e, supply_Through.l0 R n = some (0, some e)) ∨ (supply_Through.l0 R n = some ((R.map pr).foldl (fun n x => wt x.1 x.2 n) n, none) ∧ (R.map pr).foldl (fun n x => wt x.1 x.2 n) n ≤ 1073741824)
  | [], n, _, _, h1 => .inr ⟨rfl, h1⟩
  | x :: r, n, h, h0, h1 => by
    obtain ⟨a, b, c⟩ := h x (List.mem_cons_self ..)
    simp only [pr] at a b c
    have hw := (h x (List.mem_cons_self ..)).wt_ge h0
    simp only [pr] at hw
    simp only [supply_Through.l0]
    rw [wait_ok a b c h0 h1]
    by_cases hm : wt x.f0 x.f1 n ≤ 1073741824
    · rw [if_pos hm]
      simp only [Option.bind_some, Option.isNone_none, if_true, List.map_cons, List.foldl]
      exact Thr_l0 r _ (fun y hy => h y (List.mem_cons_of_mem _ hy)) (by omega) hm
    · rw [if_neg hm]
      exact .inl ⟨60, rfl⟩
theorem Through_cases {l : List S64} {n : Int} (hl : l.length ≤ 140737488351232) :
    (∃ e, supply_Through.f l n = some (0, some e)) ∨ (supply_Through.f l n = some (thr (l.map pr) n, none) ∧ thr (l.map pr) n ≤ 1073741824 ∧ l.length ≤ 8 ∧ (∀ x ∈ l, okr (pr x)) ∧ 0 ≤ n ∧ n ≤ 1073741824) := by
  unfold supply_Through.f
  rcases row_cases (a := n) hl with ⟨e, he⟩ | ⟨he, h8, hok, h0, h1⟩
  · rw [he]; exact .inl ⟨e, rfl⟩
  · rw [he]
    simp only [Option.bind_some, Option.isNone_none, if_true]
    rcases Thr_l0 l.reverse n (fun x hx => hok x (List.mem_reverse.1 hx)) h0 h1 with ⟨e, h⟩ | ⟨h, hm⟩
    · exact .inl ⟨e, h⟩
    · rw [List.map_reverse, thr_foldl] at h hm
      exact .inr ⟨h, hm, h8, hok, h0, h1⟩
instance (x : Int × Int) : Decidable (okr x) := by unfold okr; infer_instance
/-- the error of a row of reservations and a number -/
def rcode (l : List S64) (t : Int) : Int := if t < 0 ∨ t > 1073741824 then 1 else if ∀ x ∈ l, okr (pr x) then (if l.length > 8 then 3 else 0) else 2
theorem row_code {l : List S64} (hl : l.length ≤ 140737488351232) (t : Int) : supply_row.f l t = some (if rcode l t = 0 then none else some (rcode l t)) := by
  unfold supply_row.f rcode
  rw [if_pos hl]
  by_cases h1 : t < 0 ∨ t > 1073741824
  · rw [if_pos h1, if_pos h1]; rfl
  · rw [if_neg h1, if_neg h1]
    by_cases h2 : l.any supply_row.bad = true
    · rw [if_pos h2]
      have : ¬ ∀ x ∈ l, okr (pr x) := by
        obtain ⟨x, hx, hb⟩ := List.any_eq_true.1 h2
        intro h
        rw [(bad_iff x).2 (h x hx)] at hb; simp at hb
      rw [if_neg this]; rfl
    · rw [if_neg h2]
      have : ∀ x ∈ l, okr (pr x) := by
        rw [Bool.not_eq_true, List.any_eq_false] at h2
        intro x hx
        exact (bad_iff x).1 (by simpa using h2 x hx)
      rw [if_pos this]
      by_cases h3 : (l.length : Int) > 8
      · rw [if_pos h3, if_pos (show l.length > 8 by omega)]; rfl
      · rw [if_neg h3, if_neg (show ¬ l.length > 8 by omega)]; rfl
theorem rcode_ok {l : List S64} {t : Int} : rcode l t = 0 ↔ (l.length ≤ 8 ∧ (∀ x ∈ l, okr (pr x)) ∧ 0 ≤ t ∧ t ≤ 1073741824) := by
  unfold rcode
  by_cases h1 : t < 0 ∨ t > 1073741824
  · rw [if_pos h1]; constructor
    · intro h; omega
    · rintro ⟨_, _, a, b⟩; omega
  · rw [if_neg h1]
    by_cases h2 : ∀ x ∈ l, okr (pr x)
    · rw [if_pos h2]
      by_cases h3 : l.length > 8
      · rw [if_pos h3]; constructor
        · intro h; omega
        · rintro ⟨a, _⟩; omega
      · rw [if_neg h3]; exact ⟨fun _ => ⟨by omega, h2, by omega, by omega⟩, fun _ => rfl⟩
    · rw [if_neg h2]; constructor
      · intro h; omega
      · rintro ⟨_, h, _⟩; exact absurd h h2
/-- the error of work and a row of reservations -/
def fc (l : List S43) (m : List S64) : Int := if vcode l = 0 then rcode m 0 else vcode l
theorem check_evt {l : List S43} {m : List S64} (hl : l.length ≤ 4398046511104) (hm : m.length ≤ 140737488351232) : Evt (fun k => response_check.f k l m) (if fc l m = 0 then none else some (fc l m)) := by
  unfold response_check.f fc
  refine Evt.bind (Valid_evt l hl) ?_
  by_cases hv : vcode l = 0
  · rw [if_pos hv]
    unfold verr
    rw [if_pos hv]
    refine Evt.ifp rfl ?_
    by_cases hc : rcode m 0 = 0
    · obtain ⟨h8, hok, h0, h1⟩ := rcode_ok.1 hc
      rw [if_pos hc]
      exact Evt.bind (Down_evt h8 hok h0 h1) (Evt.pure fun _ => rfl)
    · rw [if_neg hc]
      refine Evt.bind (a := (0, some (rcode m 0))) ?_ (Evt.pure fun _ => rfl)
      unfold supply_Down.f
      refine Evt.call (row_code hm 0) ?_
      rw [if_neg hc]
      exact Evt.ifn (by simp) (Evt.pure fun _ => rfl)
  · rw [if_neg hv, if_neg hv]
    unfold verr
    rw [if_neg hv]
    exact Evt.ifn (by simp) (Evt.pure fun _ => rfl)
theorem fc_ok {l : List S43} {m : List S64} (h : fc l m = 0) : l.length ≤ 8 ∧ ∀ x ∈ l, okp x := by
  unfold fc at h
  by_cases hv : vcode l = 0
  · exact vcode_ok.1 hv
  · rw [if_neg hv] at h; exact absurd h hv
/-- what a level asks for -/
def lev (l : List S43) (j : Nat) (t : Int) : Int := (rd_T43 l (j : Int)).f1 + rs (ahl l j) t
theorem Level_ok {l : List S43} (h8 : l.length ≤ 8) (hok : ∀ x ∈ l, okp x) {j : Nat} (hj : j < l.length) {t : Int} (h0 : 0 ≤ t) (h1 : t ≤ 1073741824) :
    Evt (fun k => demand_Level.f k l (j : Int) t) (lev l j t, none) := by
  have hv : vcode l = 0 := vcode_ok.2 ⟨h8, hok⟩
  have hp := place_evt (l := l) (by omega) (j : Int)
  rw [if_pos hv, if_pos (by omega)] at hp
  have hi : 0 ≤ (j : Int) ∧ (j : Int) < l.length := by omega
  have ht : 0 ≤ t ∧ t ≤ 1073741824 := ⟨h0, h1⟩
  have hx := hok _ (List.getElem_mem hj)
  have hx' := hx
  obtain ⟨_, _, c1, c2, _⟩ := hx'
  rw [← rd_get hj] at c1 c2
  unfold lev
  · unfold demand_Level.f
    refine Evt.bind hp (Evt.ifp rfl (Evt.call (is_eq t 0 1073741824) ?_))
    rw [decide_eq_true ht]
    refine Evt.ifp rfl (Evt.ifp (by omega) (Evt.ifp (by omega) (Evt.bind (ahead_evt h8 j) ?_)))
    have hLok := ahl_ok hok (i := j)
    have hLl := ahl_len hj
    generalize ahl l j = L at *
    have key : ∀ (d p : Nat) (acc : Int), p + d = L.length → 0 ≤ acc → acc ≤ (p + 1) * 2251799813685248 → Evt (fun k => demand_Level.l0 k t acc L (L.length : Int) p) (acc + rs (L.drop p) t, none) := by
      intro d
      induction d with
      | zero =>
        intro p acc hp a0 a1
        refine Evt.succ (Evt.pure fun k => ?_)
        simp only [demand_Level.l0]
        rw [if_neg (by omega), List.drop_of_length_le (by omega), rs_nil, Int.add_zero]
      | succ d ih =>
        intro p acc hp a0 a1
        have hy := hLok _ (List.getElem_mem (show p < L.length by omega))
        have hb := rq_bounds hy ht.1 (by omega)
        refine Evt.succ ?_
        simp only [demand_Level.l0]
        rw [w1 p (by omega)]
        refine Evt.ifp (by omega) (Evt.ifp (by omega) (Evt.ifp (by omega) (Evt.call (a := rq L[p] t) ?_ ?_)))
        · rw [rd_get (by omega)]; exact requests_ok hy ht.1 (by omega)
        · rw [w64 (n := acc + rq L[p] t) (by omega) (by omega), List.drop_eq_getElem_cons (by omega), rs_cons, ← Int.add_assoc]
          exact ih (p + 1) _ (by omega) (by omega) (by omega)
    exact key L.length 0 _ (by omega) (by omega) (by omega)
theorem rs_mono {L : List S43} (hok : ∀ x ∈ L, okp x) {s t : Int} (h : s ≤ t) : rs L s ≤ rs L t := by
  induction L with
  | nil => simp [rs_nil]
  | cons x L ih =>
    rw [rs_cons, rs_cons]
    have a := ih (fun y hy => hok y (List.mem_cons_of_mem _ hy))
    obtain ⟨e1, _, e2, _⟩ := hok x (List.mem_cons_self ..)
    have b := cl_mono e1 h
    have c : rq x s ≤ rq x t := Int.mul_le_mul_of_nonneg_left b (by omega)
    omega
theorem lev_mono {l : List S43} (hok : ∀ x ∈ l, okp x) (j : Nat) {s t : Int} (h : s ≤ t) : lev l j s ≤ lev l j t := by
  have := rs_mono (ahl_ok hok (i := j)) h
  unfold lev; omega
theorem lev_pos {l : List S43} (hok : ∀ x ∈ l, okp x) {j : Nat} (hj : j < l.length) {t : Int} (h0 : 0 ≤ t) (h1 : t ≤ 1073741824) : 1 ≤ lev l j t ∧ (rd_T43 l (j : Int)).f1 ≤ lev l j t := by
  have a := rs_bounds (ahl_ok hok (i := j)) h0 (show t ≤ 2147483648 by omega)
  obtain ⟨_, _, c, _⟩ := hok _ (List.getElem_mem hj)
  rw [← rd_get hj] at c
  unfold lev; omega
theorem fold_ge : ∀ (R : List (Int × Int)) (n : Int), (∀ x ∈ R, okr x) → 0 ≤ n → n ≤ R.foldl (fun n x => wt x.1 x.2 n) n
  | [], n, _, _ => Int.le_refl _
  | x :: r, n, h, h0 => by
    have a := (h x (List.mem_cons_self ..)).wt_ge h0
    have b := fold_ge r (wt x.1 x.2 n) (fun y hy => h y (List.mem_cons_of_mem _ hy)) (by omega)
    simp only [List.foldl]; omega
theorem Thr_err : ∀ (R : List S64) (n : Int), (∀ x ∈ R, okr (pr x)) → 0 ≤ n → n ≤ 1073741824 → ∀ e, supply_Through.l0 R n = some (0, some e) → 1073741824 < (R.map pr).foldl (fun n x => wt x.1 x.2 n) n
  | [], n, _, _, _, e, he => by simp [supply_Through.l0] at he
  | x :: r, n, h, h0, h1, e, he => by
    obtain ⟨a, b, c⟩ := h x (List.mem_cons_self ..)
    simp only [pr] at a b c
    have hw := (h x (List.mem_cons_self ..)).wt_ge h0
    simp only [pr] at hw
    simp only [supply_Through.l0] at he
    rw [wait_ok a b c h0 h1] at he
    by_cases hm : wt x.f0 x.f1 n ≤ 1073741824
    · rw [if_pos hm] at he
      simp only [Option.bind_some, Option.isNone_none, if_true] at he
      exact Thr_err r (wt x.f0 x.f1 n) (fun y hy => h y (List.mem_cons_of_mem _ hy)) (by omega) hm e he
    · have := fold_ge (r.map pr) (wt x.f0 x.f1 n) (fun y hy => by obtain ⟨z, hz, rfl⟩ := List.mem_map.1 hy; exact h z (List.mem_cons_of_mem _ hz)) (by omega)
      show 1073741824 < (r.map pr).foldl (fun n x => wt x.1 x.2 n) (wt x.f0 x.f1 n)
      omega
theorem oks {m : List S64} (hm : ∀ x ∈ m, okr (pr x)) : ∀ x ∈ m.map pr, okr x := by
  intro y hy; obtain ⟨z, hz, rfl⟩ := List.mem_map.1 hy; exact hm z hz
theorem Through_ok {m : List S64} (h8 : m.length ≤ 8) (hm : ∀ x ∈ m, okr (pr x)) {n : Int} (hn : 1 ≤ n) :
    (∃ e, supply_Through.f m n = some (0, some e) ∧ ∀ t : Int, 0 ≤ t → t ≤ 1048576 → dn (m.map pr) t < n) ∨ supply_Through.f m n = some (thr (m.map pr) n, none) := by
  unfold supply_Through.f
  rw [row_code (by omega)]
  by_cases hc : n ≤ 1073741824
  · rw [if_pos (rcode_ok.2 ⟨h8, hm, by omega, hc⟩)]
    simp only [Option.bind_some, Option.isNone_none, if_true]
    rcases Thr_l0 m.reverse n (fun x hx => hm x (List.mem_reverse.1 hx)) (by omega) hc with ⟨e, h⟩ | ⟨h, _⟩
    · refine .inl ⟨e, h, ?_⟩
      have := Thr_err m.reverse n (fun x hx => hm x (List.mem_reverse.1 hx)) (by omega) hc e h
      rw [List.map_reverse, thr_foldl] at this
      intro t t0 t1
      have := (not_congr (thr_iff (oks hm) hn t)).2 (by omega)
      omega
    · rw [List.map_reverse, thr_foldl] at h
      exact .inr h
  · have hcc : rcode m n ≠ 0 := fun h => hc (rcode_ok.1 h).2.2.2
    rw [if_neg hcc]
    refine .inl ⟨rcode m n, rfl, ?_⟩
    intro t t0 t1
    have := dn_le (oks hm) t0
    omega
theorem time_ok {l : List S43} {m : List S64} (h8 : l.length ≤ 8) (hok : ∀ x ∈ l, okp x) (hm8 : m.length ≤ 8) (hm : ∀ x ∈ m, okr (pr x)) {j : Nat} (hj : j < l.length) :
    (∃ v : Int, Evt (fun k => response_time.f k l (j : Int) m) (v, true) ∧ 1 ≤ v ∧ v ≤ (rd_T43 l (j : Int)).f2 ∧ lev l j v ≤ dn (m.map pr) v ∧ ∀ s : Int, 1 ≤ s → s < v → dn (m.map pr) s < lev l j s) ∨
    (Evt (fun k => response_time.f k l (j : Int) m) (0, false) ∧ ∀ s : Int, 1 ≤ s → s ≤ (rd_T43 l (j : Int)).f2 → dn (m.map pr) s < lev l j s) := by
  have hx := hok _ (List.getElem_mem hj)
  rw [← rd_get hj] at hx
  obtain ⟨a1, a2, _, _, a3, a4, _⟩ := hx
  have main : ∀ (d : Nat) (t : Int), t + d = (rd_T43 l (j : Int)).f2 + 1 → 1 ≤ t → (∀ s : Int, 1 ≤ s → s < t → dn (m.map pr) s < lev l j s) →
      (∃ v : Int, Evt (fun k => response_time.l0 k l (j : Int) m t) (v, true) ∧ 1 ≤ v ∧ v ≤ (rd_T43 l (j : Int)).f2 ∧ lev l j v ≤ dn (m.map pr) v ∧ ∀ s : Int, 1 ≤ s → s < v → dn (m.map pr) s < lev l j s) ∨
      (Evt (fun k => response_time.l0 k l (j : Int) m t) (0, false) ∧ ∀ s : Int, 1 ≤ s → s ≤ (rd_T43 l (j : Int)).f2 → dn (m.map pr) s < lev l j s) := by
    intro d
    induction d using Nat.strongRecOn with
    | _ d ih =>
      intro t hd t0 hyp
      have late : ∀ u : Int, u > (rd_T43 l (j : Int)).f2 → Evt (fun k => response_time.l0 k l (j : Int) m u) (0, false) := by
        intro u hu
        refine Evt.succ ?_
        simp only [response_time.l0]
        exact Evt.ifp (by omega) (Evt.ifp (by omega) (Evt.ifp hu (Evt.pure fun _ => rfl)))
      by_cases hgt : t > (rd_T43 l (j : Int)).f2
      · exact .inr ⟨late t hgt, fun s s0 s1 => hyp s s0 (by omega)⟩
      · have p1 := Level_ok h8 hok hj (t := t) (by omega) (by omega)
        have p2 := Down_evt (t := t) hm8 hm (by omega) (by omega)
        have hL := (lev_pos hok hj (t := t) (by omega) (by omega)).1
        have go1 : ∀ r, Evt (fun k => if lev l j t ≤ dn (m.map pr) t then some (t, true) else (supply_Through.f m (lev l j t)).bind fun bt => if bt.2.isNone = true then (if bt.1 > t then response_time.l0 k l (j : Int) m bt.1 else response_time.l0 k l (j : Int) m (wrap64 (t + 1))) else some (0, false)) r → Evt (fun k => response_time.l0 k l (j : Int) m t) r := by
          intro r h
          refine Evt.succ ?_
          simp only [response_time.l0]
          exact Evt.ifp (by omega) (Evt.ifp (by omega) (Evt.ifn hgt (Evt.bind p1 (Evt.bind p2 h))))
        by_cases hle : lev l j t ≤ dn (m.map pr) t
        · exact .inl ⟨t, go1 _ (Evt.ifp hle (Evt.pure fun _ => rfl)), t0, by omega, hle, hyp⟩
        · rcases Through_ok hm8 hm hL with ⟨e, q1, q2⟩ | q1
          · refine .inr ⟨go1 _ (Evt.ifn hle (Evt.call q1 (Evt.ifn (by simp) (Evt.pure fun _ => rfl)))), fun s s0 s1 => ?_⟩
            by_cases hst : s < t
            · exact hyp s s0 hst
            · have u1 := q2 s (by omega) (by omega)
              have u2 := lev_mono hok j (show t ≤ s by omega)
              omega
          · have hxt : t < thr (m.map pr) (lev l j t) := by
              have := (not_congr (thr_iff (oks hm) hL t)).1 hle
              omega
            have skip : ∀ s : Int, 1 ≤ s → s < thr (m.map pr) (lev l j t) → dn (m.map pr) s < lev l j s := by
              intro s s0 s1
              by_cases hst : s < t
              · exact hyp s s0 hst
              · have u1 := (not_congr (thr_iff (oks hm) hL s)).2 (by omega)
                have u2 := lev_mono hok j (show t ≤ s by omega)
                omega
            by_cases hxd : thr (m.map pr) (lev l j t) > (rd_T43 l (j : Int)).f2
            · exact .inr ⟨go1 _ (Evt.ifn hle (Evt.call q1 (Evt.ifp rfl (Evt.ifp hxt (late _ hxd))))), fun s s0 s1 => skip s s0 (by omega)⟩
            · rcases ih ((rd_T43 l (j : Int)).f2 + 1 - thr (m.map pr) (lev l j t)).toNat (by omega) _ (by omega) (by omega) skip with ⟨v, y1, y2⟩ | ⟨y1, y2⟩
              · exact .inl ⟨v, go1 _ (Evt.ifn hle (Evt.call q1 (Evt.ifp rfl (Evt.ifp hxt y1)))), y2⟩
              · exact .inr ⟨go1 _ (Evt.ifn hle (Evt.call q1 (Evt.ifp rfl (Evt.ifp hxt y1)))), y2⟩
  exact main (rd_T43 l (j : Int)).f2.toNat 1 (by omega) (by omega) (fun s s0 s1 => absurd s1 (by omega))
/-- the responses of all entries, where all are in time -/
theorem all_ok {l : List S43} {m : List S64} (h8 : l.length ≤ 8) (hok : ∀ x ∈ l, okp x) (hm8 : m.length ≤ 8) (hm : ∀ x ∈ m, okr (pr x)) :
    ∃ L b, Evt (fun k => response_all.f k l m) (L, b) ∧ (b = true → L.length = l.length ∧ ∀ j : Nat, j < l.length → 1 ≤ rd L (j : Int) ∧ rd L (j : Int) ≤ (rd_T43 l (j : Int)).f2 ∧ lev l j (rd L (j : Int)) ≤ dn (m.map pr) (rd L (j : Int))) := by
  have key : ∀ (d i : Nat) (acc : List Int), i + d = l.length → acc.length = i → (∀ j : Nat, j < i → 1 ≤ rd acc (j : Int) ∧ rd acc (j : Int) ≤ (rd_T43 l (j : Int)).f2 ∧ lev l j (rd acc (j : Int)) ≤ dn (m.map pr) (rd acc (j : Int))) → ∃ L b, Evt (fun k => response_all.l0 k l m acc (l.length : Int) i) (L, b) ∧ (b = true → L.length = l.length ∧ ∀ j : Nat, j < l.length → 1 ≤ rd L (j : Int) ∧ rd L (j : Int) ≤ (rd_T43 l (j : Int)).f2 ∧ lev l j (rd L (j : Int)) ≤ dn (m.map pr) (rd L (j : Int))) := by
    intro d
    induction d with
    | zero =>
      intro i acc hi ha hf
      refine ⟨acc, true, Evt.succ (Evt.pure fun k => ?_), fun _ => ⟨by omega, fun j hj => hf j (by omega)⟩⟩
      simp only [response_all.l0]; rw [if_neg (by omega)]
    | succ d ih =>
      intro i acc hi ha hf
      rcases time_ok h8 hok hm8 hm (j := i) (by omega) with ⟨v, q1, q2, q3, q4, _⟩ | ⟨q1, q2⟩
      · obtain ⟨L, b, y1, y2⟩ := ih (i + 1) (acc ++ [v]) (by omega) (by simp; omega) (fun j hj => by
          by_cases e : j = i
          · subst e
            have e2 : rd (acc ++ [v]) (j : Int) = v := by
              unfold rd
              rw [Int.toNat_natCast, List.getD_eq_getElem?_getD, List.getElem?_append_right (by omega), ha, Nat.sub_self]; rfl
            rw [e2]
            exact ⟨q2, q3, q4⟩
          · have e2 : rd (acc ++ [v]) (j : Int) = rd acc (j : Int) := by
              unfold rd
              rw [Int.toNat_natCast, List.getD_eq_getElem?_getD, List.getD_eq_getElem?_getD, List.getElem?_append_left (by omega)]
            rw [e2]
            exact hf j (by omega))
        refine ⟨L, b, Evt.succ ?_, y2⟩
        simp only [response_all.l0]
        rw [w1 i (by omega)]
        exact Evt.ifp (by omega) (Evt.bind q1 (Evt.ifp rfl (Evt.ifp (by omega) y1)))
      · refine ⟨[], false, Evt.succ ?_, fun h => absurd h (by simp)⟩
        simp only [response_all.l0]
        exact Evt.ifp (by omega) (Evt.bind q1 (Evt.ifn (by simp) (Evt.pure fun _ => rfl)))
  exact key l.length 0 [] (by omega) rfl (fun j hj => absurd hj (by omega))
/-- all responses below one reservation -/
theorem All_ok {l : List S43} {q p : Int} (h8 : l.length ≤ 8) (hok : ∀ x ∈ l, okp x) (hq : 1 ≤ q) (hqp : q ≤ p) (hp : p ≤ 1048576) :
    ∃ L e, Evt (fun k => response_All.f k l [(⟨q, p⟩ : S64)]) (L, e) ∧ (e = none → L.length = l.length ∧ ∀ j : Nat, j < l.length → 1 ≤ rd L (j : Int) ∧ rd L (j : Int) ≤ (rd_T43 l (j : Int)).f2 ∧ lev l j (rd L (j : Int)) ≤ lst q p (rd L (j : Int))) := by
  have hm : ∀ x ∈ [(⟨q, p⟩ : S64)], okr (pr x) := by
    intro x hx
    rw [List.mem_singleton.1 hx]
    exact ⟨hq, hqp, hp⟩
  have hv : vcode l = 0 := vcode_ok.2 ⟨h8, hok⟩
  have hc := check_evt (l := l) (m := [(⟨q, p⟩ : S64)]) (by omega) (by simp)
  have hf : fc l [(⟨q, p⟩ : S64)] = 0 := by
    unfold fc
    rw [if_pos hv]
    exact rcode_ok.2 ⟨by simp, hm, by omega, by omega⟩
  rw [if_pos hf] at hc
  obtain ⟨L, b, h1, h2⟩ := all_ok (m := [(⟨q, p⟩ : S64)]) h8 hok (by simp) hm
  cases b with
  | true =>
    refine ⟨L, none, ?_, fun _ => h2 rfl⟩
    unfold response_All.f
    exact Evt.bind hc (Evt.ifp rfl (Evt.bind h1 (Evt.ifp rfl (Evt.pure fun _ => rfl))))
  | false =>
    refine ⟨[], some 220, ?_, fun h => absurd h (by simp)⟩
    unfold response_All.f
    exact Evt.bind hc (Evt.ifp rfl (Evt.bind h1 (Evt.ifn (by simp) (Evt.pure fun _ => rfl))))
end Go.Proofs.YtdonlmbhamcjdaaRRR.Pure
