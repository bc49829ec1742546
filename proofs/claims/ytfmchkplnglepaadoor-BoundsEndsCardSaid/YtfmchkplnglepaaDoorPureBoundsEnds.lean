/- Proved here: BoundsEnds answers true at all arguments. No conditions. -/
import Derived.Test.YtfmchkplnglepaaDoorDefBoundsEnds
import Derived.Test.YtfmchkplnglepaaDoorAid
namespace Go.Proofs.YtfmchkplnglepaaDoor.Pure
open Go Go.RowKit Tithe Go.Proofs.YtfmchkplnglepaaDoor.V Go.Proofs.YtfmchkplnglepaaDoorW.PrintWords Go.Proofs.YtfmchkplnglepaaDoorW.PrintLast Go.Proofs.YtfmchkplnglepaaDoorW.PrintMore
set_option linter.unusedVariables false
set_option linter.unusedSimpArgs false
/-- n ends behind a -/
def ends (p : Int) : Int → Nat → List Int
  | _, 0 => []
  | a, n + 1 => (a + p) :: ends p (a + p) n
theorem endsA {q p fr D : Int} (hp : 1 ≤ p) (hf : 0 ≤ fr) (hD : 0 ≤ D) (hto : fr + D ≤ 9223372036854775807) : ∀ (n : Nat) (i : Int) (acc : List Int), 1 ≤ i → i - 1 + (n : Int) = D / p → i + (n : Int) ≤ 5000 → acc.length + n ≤ 5000 →
    Evt (fun k => bounds_Ends.l0 k fr (D / p) acc i q p) (acc ++ ends p (fr + (i - 1) * p) n, none)
  | 0, i, acc, h1, h2, h3, h4 => by
    refine Evt.succ ?_
    simp only [bounds_Ends.l0]
    refine Evt.ifn (by omega) (Evt.pure fun _ => ?_)
    simp [ends]
  | n + 1, i, acc, h1, h2, h3, h4 => by
    have hle : i ≤ D / p := by omega
    have hm : i * p ≤ D := (Int.le_ediv_iff_mul_le (by omega)).1 hle
    have hm0 : 0 ≤ i * p := Int.mul_nonneg (by omega) (by omega)
    have e1 : wrap64 (i * p) = i * p := w64 (by omega) (by omega)
    have e2 : wrap64 (fr + i * p) = fr + i * p := w64 (by omega) (by omega)
    have e3 : wrap64 (i + 1) = i + 1 := w64 (by omega) (by omega)
    have e4 : fr + (i - 1) * p + p = fr + i * p := by rw [Int.sub_mul, Int.one_mul]; omega
    refine Evt.succ ?_
    simp only [bounds_Ends.l0]
    refine Evt.ifp hle (Evt.ifp (by omega) ?_)
    rw [e1, e2, e3]
    have ih := endsA (q := q) hp hf hD hto n (i + 1) (acc ++ [fr + i * p]) (by omega) (by omega) (by omega) (by simp; omega)
    have e5 : acc ++ ends p (fr + (i - 1) * p) (n + 1) = acc ++ [fr + i * p] ++ ends p (fr + (i + 1 - 1) * p) n := by
      show acc ++ ((fr + (i - 1) * p + p) :: ends p (fr + (i - 1) * p + p) n) = _
      rw [e4, show i + 1 - 1 = i from by omega]
      simp
    rw [e5]
    exact ih
theorem endsB {q p tt : Int} (hp : 1 ≤ p) (hp2 : p ≤ 1048576) (ht : tt ≤ 9223372036854775807) : ∀ (n : Nat) (a : Int) (acc : List Int), 0 ≤ a → a ≤ tt → (tt - a) / p = (n : Int) → acc.length + n ≤ 5000 →
    Evt (fun k => titheref11_Ends.l0 k tt acc a q p) (acc ++ ends p a n, 0)
  | 0, a, acc, h1, h2, h3, h4 => by
    have hlt : tt - a < p := by
      have := Int.lt_mul_of_ediv_lt (a := tt - a) (b := 1) (c := p) (by omega) (by omega)
      omega
    have e1 : wrap64 (tt - a) = tt - a := w64 (by omega) (by omega)
    refine Evt.succ ?_
    simp only [titheref11_Ends.l0]
    rw [e1]
    refine Evt.ifn (by omega) (Evt.pure fun _ => ?_)
    simp [ends]
  | n + 1, a, acc, h1, h2, h3, h4 => by
    have hle : p ≤ tt - a := by
      have := (Int.le_ediv_iff_mul_le (a := 1) (b := tt - a) (c := p) (by omega)).1 (by omega)
      omega
    have e1 : wrap64 (tt - a) = tt - a := w64 (by omega) (by omega)
    have e2 : wrap64 (a + p) = a + p := w64 (by omega) (by omega)
    have e3 : (tt - (a + p)) / p = (n : Int) := by
      have h : tt - (a + p) = (tt - a) + (-1) * p := by omega
      rw [h, Int.add_mul_ediv_right _ _ (by omega)]
      omega
    refine Evt.succ ?_
    simp only [titheref11_Ends.l0]
    rw [e1]
    refine Evt.ifp hle (Evt.ifp (by omega) ?_)
    rw [e2]
    have ih := endsB (q := q) hp hp2 ht n (a + p) (acc ++ [a + p]) (by omega) (by omega) e3 (by simp; omega)
    have e5 : acc ++ ends p a (n + 1) = acc ++ [a + p] ++ ends p (a + p) n := by
      show acc ++ ((a + p) :: ends p (a + p) n) = _
      simp
    rw [e5]
    exact ih
theorem same_l {l : List Int} (hl : l.length ≤ 100000) : ∀ (n : Nat) (i : Int), 0 ≤ i → i + (n : Int) = l.length → Evt (fun k => tithelaw11_same.l0 k l l i) true
  | 0, i, h0, h1 => by
    refine Evt.succ ?_
    simp only [tithelaw11_same.l0]
    exact Evt.ifn (by omega) (Evt.pure fun _ => rfl)
  | n + 1, i, h0, h1 => by
    refine Evt.succ ?_
    simp only [tithelaw11_same.l0]
    refine Evt.ifp (by omega) (Evt.ifp h0 (Evt.ifp (by omega) (Evt.ifp (by simp) ?_)))
    rw [w64 (n := i + 1) (by omega) (by omega)]
    exact same_l hl n (i + 1) (by omega) (by omega)
theorem same_evt {l : List Int} (hl : l.length ≤ 100000) : Evt (fun k => tithelaw11_same.f k l l) true := by
  unfold tithelaw11_same.f
  exact Evt.ifp rfl (same_l hl l.length 0 (by omega) (by omega))
theorem ends_len (p : Int) : ∀ (n : Nat) (a : Int), (ends p a n).length = n
  | 0, _ => rfl
  | n + 1, a => by simp [ends, ends_len p n]
/-- both answer the same: the list, and the error's number -/
theorem both (q p fr tt : Int) (h0 : -9223372036854775808 ≤ fr) (h1 : fr ≤ 9223372036854775807) (h2 : tt ≤ 9223372036854775807) : ∃ (l : List Int) (e : Option Int), l.length ≤ 5000 ∧ Evt (fun k => bounds_Ends.f k q p fr tt) (l, e) ∧ Evt (fun k => titheref11_Ends.f k q p fr tt) (l, e.getD 0) := by
  unfold bounds_Ends.f titheref11_Ends.f
  by_cases c1 : fr < 0
  · refine ⟨[], some 1, by simp, Evt.ifp c1 (Evt.succ ?_), Evt.ifp c1 (Evt.succ ?_)⟩
    · simp only [bounds_Ends.j0]; exact Evt.ifp (by simp) (Evt.pure fun _ => rfl)
    · simp only [titheref11_Ends.j0]; exact Evt.ifp (by simp) (Evt.pure fun _ => rfl)
  by_cases c2 : tt < fr
  · refine ⟨[], some 1, by simp, Evt.ifn c1 (Evt.succ ?_), Evt.ifn c1 (Evt.succ ?_)⟩
    · simp only [bounds_Ends.j0]; exact Evt.ifp (by simpa using c2) (Evt.pure fun _ => rfl)
    · simp only [titheref11_Ends.j0]; exact Evt.ifp (by simpa using c2) (Evt.pure fun _ => rfl)
  by_cases hv : 1 ≤ q ∧ p ≤ 1048576 ∧ q ≤ p
  · have v1 : fixed_Valid.f q p = some none := by unfold fixed_Valid.f; rw [if_neg (by omega), if_neg (by omega), if_neg (by omega)]
    have v2 : titheref01_Valid.f q p = some 0 := by unfold titheref01_Valid.f; rw [if_neg (by omega), if_neg (by omega), if_neg (by omega)]
    have e1 : wrap64 (tt - fr) = tt - fr := w64 (by omega) (by omega)
    have hq0 : 0 ≤ (tt - fr) / p := Int.ediv_nonneg (by omega) (by omega)
    have hq1 : (tt - fr) / p ≤ tt - fr := Int.ediv_le_self _ (by omega)
    have e2 : wrap64 (Int.tdiv (tt - fr) p) = (tt - fr) / p := by rw [Int.tdiv_eq_ediv_of_nonneg (by omega)]; exact w64 (by omega) (by omega)
    by_cases c3 : (tt - fr) / p > 4096
    · refine ⟨[], some 3, by simp, Evt.ifn c1 (Evt.succ ?_), Evt.ifn c1 (Evt.succ ?_)⟩
      · simp only [bounds_Ends.j0]
        rw [e1, e2]
        exact Evt.ifn (by simpa using c2) (Evt.call v1 (Evt.ifp rfl (Evt.ifn (by omega) (Evt.ifp c3 (Evt.pure fun _ => rfl)))))
      · simp only [titheref11_Ends.j0]
        rw [e1, e2]
        exact Evt.ifn (by simpa using c2) (Evt.call v2 (Evt.ifp rfl (Evt.ifn (by omega) (Evt.ifp c3 (Evt.pure fun _ => rfl)))))
    · obtain ⟨n, hn⟩ : ∃ n : Nat, (tt - fr) / p = (n : Int) := ⟨((tt - fr) / p).toNat, by omega⟩
      have A := endsA (q := q) (p := p) (fr := fr) (D := tt - fr) (by omega) (by omega) (by omega) (by omega) n 1 [] (by omega) (by omega) (by omega) (by simp; omega)
      have Bb := endsB (q := q) (p := p) (tt := tt) (by omega) (by omega) h2 n fr [] (by omega) (by omega) hn (by simp; omega)
      rw [show fr + (1 - 1) * p = fr from by simp, List.nil_append] at A
      rw [List.nil_append] at Bb
      refine ⟨ends p fr n, none, by rw [ends_len]; omega, Evt.ifn c1 (Evt.succ ?_), Evt.ifn c1 (Evt.succ ?_)⟩
      · simp only [bounds_Ends.j0]
        rw [e1, e2]
        exact Evt.ifn (by simpa using c2) (Evt.call v1 (Evt.ifp rfl (Evt.ifn (by omega) (Evt.ifn c3 A))))
      · simp only [titheref11_Ends.j0]
        rw [e1, e2]
        exact Evt.ifn (by simpa using c2) (Evt.call v2 (Evt.ifp rfl (Evt.ifn (by omega) (Evt.ifn c3 Bb))))
  · have v1 : fixed_Valid.f q p = some (some 2) := by
      unfold fixed_Valid.f
      by_cases a : q < 1
      · rw [if_pos a]
      · rw [if_neg a]
        by_cases b : p > 1048576
        · rw [if_pos b]
        · rw [if_neg b, if_pos (by omega)]
    have v2 : titheref01_Valid.f q p = some 2 := by
      unfold titheref01_Valid.f
      by_cases a : q < 1
      · rw [if_pos a]
      · rw [if_neg a]
        by_cases b : p > 1048576
        · rw [if_pos b]
        · rw [if_neg b, if_pos (by omega)]
    refine ⟨[], some 2, by simp, Evt.ifn c1 (Evt.succ ?_), Evt.ifn c1 (Evt.succ ?_)⟩
    · simp only [bounds_Ends.j0]
      exact Evt.ifn (by simpa using c2) (Evt.call v1 (Evt.ifn (by simp) (Evt.pure fun _ => rfl)))
    · simp only [titheref11_Ends.j0]
      exact Evt.ifn (by simpa using c2) (Evt.call v2 (Evt.ifn (by omega) (Evt.pure fun _ => rfl)))
theorem BoundsEnds : tithelaw11_BoundsEnds.Pure := by
  unfold tithelaw11_BoundsEnds.Pure
  intro q p fr tt _ _ hf ht
  have b1 := wf64 hf
  have b2 := wf64 ht
  obtain ⟨l, e, hl, hA, hB⟩ := both q p fr tt b1.1 b1.2 b2.2
  refine Evt.ex ?_
  unfold tithelaw11_BoundsEnds.f
  exact Evt.bind hA (Evt.bind hB (Evt.bind (same_evt (l := l) (by omega)) (Evt.ifp rfl (Evt.call (a := e.getD 0) rfl (Evt.ifp rfl (Evt.call (a := true) rfl (Evt.pure fun _ => rfl)))))))
end Go.Proofs.YtfmchkplnglepaaDoor.Pure
