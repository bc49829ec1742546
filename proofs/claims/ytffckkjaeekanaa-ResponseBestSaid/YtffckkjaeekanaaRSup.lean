/- Rows of reservations: what the program's functions answer, as plain numbers. No conditions. -/
import Derived.Test.YtffckkjaeekanaaBx3
import Derived.Test.YtffckkjaeekanaaBx6
import Derived.Test.YtffckkjaeekanaaBx2
import Derived.Test.YtffckkjaeekanaaBx3
import Derived.Test.YtffckkjaeekanaaBx5
import Derived.Test.YtffckkjaeekanaaAid
import Derived.Test.YtffckkjaeekanaaRsv
namespace Go.Proofs.Ytffckkjaeekanaa.Pure
open Go Go.RowKit Tithe Go.Proofs.Ytffckkjaeekanaa.B Go.Proofs.YtffckkjaeekanaaW.PrintWords Go.Proofs.YtffckkjaeekanaaW.PrintLast Go.Proofs.YtffckkjaeekanaaW.PrintMore

theorem mx_max (a b : Int) : mx a b = max a b := by unfold mx; omega

theorem valid_ok {q p : Int} (hq : 1 ≤ q) (hqp : q ≤ p) (hp : p ≤ 1048576) : fixed_Valid.f q p = some none := by
  unfold fixed_Valid.f; rw [if_neg (by omega), if_neg (by omega), if_neg (by omega)]

theorem least_ok {q p t : Int} (hq : 0 ≤ q) (hqp : q ≤ p) (hp0 : 1 ≤ p) (hp : p ≤ 1048576) (h0 : 0 ≤ t) (h1 : t ≤ 1073741824) : supply_least.f q p t = some (lst q p t) := by
  unfold supply_least.f lst fsup
  have e1 : wrap64 (p - q) = p - q := w64 (by omega) (by omega)
  rw [e1]
  by_cases h : t ≤ p - q
  · rw [if_pos h, if_pos h]
  · rw [if_neg h, if_neg (by omega), if_neg h]
    have e2 : wrap64 (t - (p - q)) = t - (p - q) := w64 (by omega) (by omega)
    rw [e2, tdiv_pos (by omega)]
    generalize hu : t - (p - q) = u
    have hk0 : 0 ≤ u / p := Int.ediv_nonneg (by omega) (by omega)
    have hm := Int.mul_ediv_add_emod u p
    have hr0 := Int.emod_nonneg u (b := p) (by omega)
    have hr1 := Int.emod_lt_of_pos u (b := p) (by omega)
    rw [Int.mul_comm] at hm
    have hkp : 0 ≤ u / p * p := Int.mul_nonneg hk0 (by omega)
    have hkq : 0 ≤ u / p * q := Int.mul_nonneg hk0 (by omega)
    have hkqp : u / p * q ≤ u / p * p := Int.mul_le_mul_of_nonneg_left hqp hk0
    have hku : u / p ≤ u / p * p := by have := Int.mul_le_mul_of_nonneg_left hp0 hk0; omega
    have e3 : wrap64 (u / p) = u / p := w64 (by omega) (by omega)
    have e4 : wrap64 (u / p * q) = u / p * q := w64 (by omega) (by omega)
    have e5 : wrap64 (u / p * p) = u / p * p := w64 (by omega) (by omega)
    rw [e3, e4, e5]
    have e6 : wrap64 (u - u / p * p) = u - u / p * p := w64 (by omega) (by omega)
    rw [e6]
    have e7 : wrap64 (u - u / p * p - (p - q)) = u - u / p * p - (p - q) := w64 (by omega) (by omega)
    rw [e7, mx_max, w64 (by omega) (by omega)]

theorem wait_ok {q p n : Int} (hq : 1 ≤ q) (hqp : q ≤ p) (hp : p ≤ 1048576) (h0 : 0 ≤ n) (h1 : n ≤ 1073741824) :
    supply_wait.f q p n = if wt q p n ≤ 1073741824 then some (wt q p n, none) else some (0, some 60) := by
  unfold supply_wait.f
  by_cases hn : n = 0
  · subst hn; rw [if_pos rfl, wt_zero, if_pos (by omega)]
  · rw [if_neg hn, if_neg (by omega)]
    have e0 : wrap64 (p - q) = p - q := w64 (by omega) (by omega)
    have e1 : wrap64 (n - 1) = n - 1 := w64 (by omega) (by omega)
    rw [e0, e1, tdiv_pos (by omega)]
    have hw : wt q p n = 2 * (p - q) + (n - 1) / q * p + n - (n - 1) / q * q := by unfold wt; rw [if_neg hn]
    have hk0 : 0 ≤ (n - 1) / q := Int.ediv_nonneg (by omega) (by omega)
    have hk1 : (n - 1) / q ≤ n - 1 := Int.ediv_le_self _ (by omega)
    generalize (n - 1) / q = k at hw hk0 hk1 ⊢
    have b1 : 0 ≤ k * p := Int.mul_nonneg hk0 (by omega)
    have b2 : k * p ≤ 1073741824 * 1048576 := Int.mul_le_mul (by omega) hp (by omega) (by omega)
    have b3 : 0 ≤ k * q := Int.mul_nonneg hk0 (by omega)
    have b4 : k * q ≤ 1073741824 * 1048576 := Int.mul_le_mul (by omega) (by omega) (by omega) (by omega)
    have e2 : wrap64 (2 * (p - q)) = 2 * (p - q) := w64 (by omega) (by omega)
    have e3 : wrap64 k = k := w64 (by omega) (by omega)
    rw [e2, e3]
    generalize k * p = kp at *
    generalize k * q = kq at *
    have e4 : wrap64 kp = kp := w64 (by omega) (by omega)
    have e5 : wrap64 kq = kq := w64 (by omega) (by omega)
    rw [e4, e5]
    have e6 : wrap64 (2 * (p - q) + kp) = 2 * (p - q) + kp := w64 (by omega) (by omega)
    rw [e6]
    have e7 : wrap64 (2 * (p - q) + kp + n) = 2 * (p - q) + kp + n := w64 (by omega) (by omega)
    rw [e7]
    have e8 : wrap64 (2 * (p - q) + kp + n - kq) = 2 * (p - q) + kp + n - kq := w64 (by omega) (by omega)
    rw [e8, hw]

/-- a reservation as a pair -/
def pr (x : S48) : Int × Int := (x.f0, x.f1)
theorem bad_iff (x : S48) : supply_row.bad x = false ↔ okr (pr x) := by
  unfold supply_row.bad okr pr
  rw [decide_eq_false_iff_not]
  constructor
  · intro h; exact ⟨by omega, by omega, by omega⟩
  · rintro ⟨a, b, c⟩; simp only [] at a b c; omega

theorem row_ok {l : List S48} {a : Int} (hl : l.length ≤ 8) (h : ∀ x ∈ l, okr (pr x)) (h0 : 0 ≤ a) (h1 : a ≤ 1073741824) : supply_row.f l a = some none := by
  unfold supply_row.f
  rw [if_pos (by omega), if_neg (by omega), if_neg, if_neg (by omega)]
  rw [Bool.not_eq_true, List.any_eq_false]
  intro x hx; rw [(bad_iff x).2 (h x hx)]; simp
theorem row_cases {l : List S48} {a : Int} (hl : l.length ≤ 140737488351232) :
    (∃ e, supply_row.f l a = some (some e)) ∨ (supply_row.f l a = some none ∧ l.length ≤ 8 ∧ (∀ x ∈ l, okr (pr x)) ∧ 0 ≤ a ∧ a ≤ 1073741824) := by
  unfold supply_row.f
  rw [if_pos hl]
  by_cases h1 : a < 0 ∨ a > 1073741824
  · rw [if_pos h1]; exact .inl ⟨_, rfl⟩
  · rw [if_neg h1]
    by_cases h2 : l.any supply_row.bad = true
    · rw [if_pos h2]; exact .inl ⟨_, rfl⟩
    · rw [if_neg h2]
      by_cases h3 : (l.length : Int) > 8
      · rw [if_pos h3]; exact .inl ⟨_, rfl⟩
      · rw [if_neg h3]
        refine .inr ⟨rfl, by omega, fun x hx => ?_, by omega, by omega⟩
        rw [Bool.not_eq_true, List.any_eq_false] at h2
        exact (bad_iff x).1 (by simpa using h2 x hx)

theorem rd_get48 {l : List S48} {i : Nat} (h : i < l.length) : rd_T48 l (i : Int) = l[i] := by
  simp [rd_T48, List.getD, List.getElem?_eq_getElem h]

theorem Down_evt {l : List S48} {t : Int} (hl : l.length ≤ 8) (h : ∀ x ∈ l, okr (pr x)) (h0 : 0 ≤ t) (h1 : t ≤ 1073741824) :
    Evt (fun k => supply_Down.f k l t) (dn (l.map pr) t, none) := by
  have key : ∀ (d i : Nat) (u : Int), i + d = l.length → 0 ≤ u → u ≤ 1073741824 → Evt (fun k => supply_Down.l0 k u l (l.length : Int) i) (dn ((l.drop i).map pr) u, none) := by
    intro d
    induction d with
    | zero =>
      intro i u hi hu0 hu1
      refine Evt.succ (Evt.pure fun k => ?_)
      simp only [supply_Down.l0]
      rw [if_neg (by omega), List.drop_of_length_le (by omega)]; rfl
    | succ d ih =>
      intro i u hi hu0 hu1
      refine Evt.succ ?_
      simp only [supply_Down.l0]
      rw [w1 i (by omega)]
      have hx := h _ (List.getElem_mem (show i < l.length by omega))
      have hx' := hx
      obtain ⟨a, b, c⟩ := hx'
      simp only [pr] at a b c
      have q0 := hx.lst_nonneg u
      have q1 := hx.lst_le hu0
      simp only [pr] at q0 q1
      refine Evt.ifp (by omega) (Evt.ifp (by omega) (Evt.ifp (by omega) (Evt.call (a := lst l[i].f0 l[i].f1 u) ?_ ?_)))
      · rw [rd_get48 (by omega)]; exact least_ok (by omega) b (by omega) c hu0 hu1
      · have := ih (i + 1) (lst l[i].f0 l[i].f1 u) (by omega) q0 (by omega)
        rw [List.drop_eq_getElem_cons (show i < l.length by omega)]
        exact this
  have := key l.length 0 t (by omega) h0 h1
  refine Evt.congr (g' := fun k => supply_Down.l0 k t l (l.length : Int) 0) (by simpa using this) ?_
  intro k
  unfold supply_Down.f
  rw [row_ok hl h h0 h1]; rfl

theorem Thr_l0 : ∀ (R : List S48) (n : Int), (∀ x ∈ R, okr (pr x)) → 0 ≤ n → n ≤ 1073741824 →
    (∃ e, supply_Through.l0 R n = some (0, some e)) ∨ (supply_Through.l0 R n = some ((R.map pr).foldl (fun n x => wt x.1 x.2 n) n, none) ∧ (R.map pr).foldl (fun n x => wt x.1 x.2 n) n ≤ 1073741824)
  | [], n, _, _, h1 => .inr ⟨rfl, h1⟩
  | x :: r, n, h, h0, h1 => by
    obtain ⟨a, b, c⟩ := h x (List.mem_cons_self ..)
    simp only [pr] at a b c
    have hw := (h x (List.mem_cons_self ..)).wt_ge h0
    simp only [pr] at hw
    simp only [supply_Through.l0]
    rw [wait_ok a b c h0 h1]
    by_cases hm : wt x.f0 x.f1 n ≤ 1073741824
    · rw [if_pos hm]
      simp only [Option.bind_some, Option.isNone_none, if_true, List.map_cons, List.foldl]
      exact Thr_l0 r _ (fun y hy => h y (List.mem_cons_of_mem _ hy)) (by omega) hm
    · rw [if_neg hm]
      exact .inl ⟨60, rfl⟩

theorem Through_cases {l : List S48} {n : Int} (hl : l.length ≤ 140737488351232) :
    (∃ e, supply_Through.f l n = some (0, some e)) ∨ (supply_Through.f l n = some (thr (l.map pr) n, none) ∧ thr (l.map pr) n ≤ 1073741824 ∧ l.length ≤ 8 ∧ (∀ x ∈ l, okr (pr x)) ∧ 0 ≤ n ∧ n ≤ 1073741824) := by
  unfold supply_Through.f
  rcases row_cases (a := n) hl with ⟨e, he⟩ | ⟨he, h8, hok, h0, h1⟩
  · rw [he]; exact .inl ⟨e, rfl⟩
  · rw [he]
    simp only [Option.bind_some, Option.isNone_none, if_true]
    rcases Thr_l0 l.reverse n (fun x hx => hok x (List.mem_reverse.1 hx)) h0 h1 with ⟨e, h⟩ | ⟨h, hm⟩
    · exact .inl ⟨e, h⟩
    · rw [List.map_reverse, thr_foldl] at h hm
      exact .inr ⟨h, hm, h8, hok, h0, h1⟩

end Go.Proofs.Ytffckkjaeekanaa.Pure
