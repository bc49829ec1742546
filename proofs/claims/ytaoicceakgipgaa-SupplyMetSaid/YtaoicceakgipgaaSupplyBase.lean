/- What the functions of the package supply answer, as plain numbers: Least, Most, Gap, Wait of a reservation that may be. No conditions. -/
import Derived.Test.YtaoicceakgipgaaXx1
import Derived.Test.YtaoicceakgipgaaAid
import Derived.Test.YtaoicceakgipgaaLst
import Derived.Test.YtaoicceakgipgaaBools
namespace Go.Proofs.Ytaoicceakgipgaa.Pure
open Go Go.RowKit Tithe Go.Proofs.Ytaoicceakgipgaa.X Go.Proofs.YtaoicceakgipgaaW.PrintWords Go.Proofs.YtaoicceakgipgaaW.PrintLast Go.Proofs.YtaoicceakgipgaaW.PrintMore

theorem mx_max (a b : Int) : mx a b = max a b := by unfold mx; omega

theorem valid_ok {q p : Int} (hq : 1 ≤ q) (hqp : q ≤ p) (hp : p ≤ 1048576) : fixed_Valid.f q p = some none := by
  unfold fixed_Valid.f; rw [if_neg (by omega), if_neg (by omega), if_neg (by omega)]

theorem fault_ok {q p t : Int} (hq : 1 ≤ q) (hqp : q ≤ p) (hp : p ≤ 1048576) (h0 : 0 ≤ t) (h1 : t ≤ 1073741824) : supply_fault.f q p t = some none := by
  unfold supply_fault.f; rw [if_neg (by omega), if_neg (by omega), valid_ok hq hqp hp]; rfl

theorem least_ok {q p t : Int} (hq : 0 ≤ q) (hqp : q ≤ p) (hp0 : 1 ≤ p) (hp : p ≤ 1048576) (h0 : 0 ≤ t) (h1 : t ≤ 1073741824) : supply_least.f q p t = some (lst q p t) := by
  unfold supply_least.f lst fsup
  have e1 : wrap64 (p - q) = p - q := w64 (by omega) (by omega)
  rw [e1]
  by_cases h : t ≤ p - q
  · rw [if_pos h, if_pos h]
  · rw [if_neg h, if_neg (by omega), if_neg h]
    have e2 : wrap64 (t - (p - q)) = t - (p - q) := w64 (by omega) (by omega)
    rw [e2, tdiv_pos (by omega)]
    generalize hu : t - (p - q) = u
    have hk0 : 0 ≤ u / p := Int.ediv_nonneg (by omega) (by omega)
    have hm := Int.mul_ediv_add_emod u p
    have hr0 := Int.emod_nonneg u (b := p) (by omega)
    have hr1 := Int.emod_lt_of_pos u (b := p) (by omega)
    rw [Int.mul_comm] at hm
    have hkp : 0 ≤ u / p * p := Int.mul_nonneg hk0 (by omega)
    have hkq : 0 ≤ u / p * q := Int.mul_nonneg hk0 (by omega)
    have hkqp : u / p * q ≤ u / p * p := Int.mul_le_mul_of_nonneg_left hqp hk0
    have hku : u / p ≤ u / p * p := by have := Int.mul_le_mul_of_nonneg_left hp0 hk0; omega
    have e3 : wrap64 (u / p) = u / p := w64 (by omega) (by omega)
    have e4 : wrap64 (u / p * q) = u / p * q := w64 (by omega) (by omega)
    have e5 : wrap64 (u / p * p) = u / p * p := w64 (by omega) (by omega)
    rw [e3, e4, e5]
    have e6 : wrap64 (u - u / p * p) = u - u / p * p := w64 (by omega) (by omega)
    rw [e6]
    have e7 : wrap64 (u - u / p * p - (p - q)) = u - u / p * p - (p - q) := w64 (by omega) (by omega)
    rw [e7, mx_max, w64 (by omega) (by omega)]

theorem Least_ok {q p t : Int} (hq : 1 ≤ q) (hqp : q ≤ p) (hp : p ≤ 1048576) (h0 : 0 ≤ t) (h1 : t ≤ 1073741824) : supply_Least.f q p t = some (lst q p t, none) := by
  unfold supply_Least.f; rw [fault_ok hq hqp hp h0 h1, least_ok (by omega) hqp (by omega) hp h0 h1]; rfl

theorem Most_ok {q p t : Int} (hq : 1 ≤ q) (hqp : q ≤ p) (hp : p ≤ 1048576) (h0 : 0 ≤ t) (h1 : t ≤ 1073741824) : supply_Most.f q p t = some (t - lst (p - q) p t, none) := by
  unfold supply_Most.f
  have a := lst_le (q := p - q) (p := p) (t := t) (by omega) (by omega) (by omega) h0
  have b := lst_nonneg (q := p - q) (p := p) (t := t) (by omega) (by omega) (by omega)
  have e1 : wrap64 (p - q) = p - q := w64 (by omega) (by omega)
  rw [fault_ok hq hqp hp h0 h1, e1, least_ok (by omega) (by omega) (by omega) hp h0 h1]
  simp only [Option.bind_some, Option.isNone_none, if_true]
  rw [w64 (by omega) (by omega)]

theorem sure_ok : tithelaw21_sure.f = some true := by decide +kernel

theorem count_evt (l : List Bool) (hl : l.length ≤ 1073741824) : Evt (fun k => tithelaw21_count.f k l) (ct l) := by
  have key : ∀ (d i c : Nat), i + d = l.length → c ≤ i → Evt (fun k => tithelaw21_count.l0 k l c i) ((c + ct (l.drop i) : Nat) : Int) := by
    intro d
    induction d with
    | zero =>
      intro i c h hc
      refine Evt.succ (Evt.pure fun k => ?_)
      simp only [tithelaw21_count.l0]
      rw [if_neg (by omega), List.drop_of_length_le (by omega)]; simp [ct]
    | succ d ih =>
      intro i c h hc
      refine Evt.succ ?_
      simp only [tithelaw21_count.l0]
      rw [w64 (n := (i : Int) + 1) (by omega) (by omega), w64 (n := (c : Int) + 1) (by omega) (by omega)]
      refine Evt.ifp (by omega) (Evt.ifp (by omega) ?_)
      have hd : l.drop i = l[i]'(by omega) :: l.drop (i + 1) := List.drop_eq_getElem_cons (by omega)
      have hr : rdOf false l (i : Int) = l[i]'(by omega) := by simp [rdOf, List.getD, List.getElem?_eq_getElem (show i < l.length by omega)]
      rw [hr, hd]
      by_cases hb : l[i]'(by omega) = true
      · refine Evt.ifp hb ?_
        rw [hb]
        have := ih (i + 1) (c + 1) (by omega) (by omega)
        rw [show ((i + 1 : Nat) : Int) = (i : Int) + 1 by omega, show ((c + 1 : Nat) : Int) = (c : Int) + 1 by omega] at this
        rw [show c + ct (true :: l.drop (i + 1)) = c + 1 + ct (l.drop (i + 1)) by simp [ct]; omega]; exact this
      · refine Evt.ifn hb ?_
        have := ih (i + 1) c (by omega) (by omega)
        rw [show ((i + 1 : Nat) : Int) = (i : Int) + 1 by omega] at this
        have hb' : l[i]'(by omega) = false := by simpa using hb
        rw [hb', show ct (false :: l.drop (i + 1)) = ct (l.drop (i + 1)) by simp [ct]]; exact this
  have := key l.length 0 0 (by omega) (by omega)
  simpa [tithelaw21_count.f] using this

end Go.Proofs.Ytaoicceakgipgaa.Pure
