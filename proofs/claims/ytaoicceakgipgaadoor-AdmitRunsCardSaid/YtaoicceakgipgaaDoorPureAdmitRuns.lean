/- Proved here: AdmitRuns answers true at all rows of acts. No conditions. -/
import Derived.Test.YtaoicceakgipgaaDoorDefAdmitRuns
import Derived.Test.YtaoicceakgipgaaDoorAdmRel
import Derived.Test.YtaoicceakgipgaaDoorAx10
namespace Go.Proofs.YtaoicceakgipgaaDoor.Pure
open Go Go.RowKit Tithe Go.Proofs.YtaoicceakgipgaaDoor.A Go.Proofs.YtaoicceakgipgaaDoorW.PrintWords Go.Proofs.YtaoicceakgipgaaDoorW.PrintLast Go.Proofs.YtaoicceakgipgaaDoorW.PrintMore
set_option linter.unusedVariables false
set_option linter.unusedSimpArgs false
/-- the share of q in p is at most b just where q is at most b parts of p -/
theorem ref_share {q p : Int} (h0 : 1 ≤ q) (h1 : q ≤ p) (h2 : p ≤ 1048576) : titheref01_Share.f q p = some ((q * 1048576 + p - 1) / p, 0) := by
  have e : wrap64 (Int.tdiv (wrap64 (wrap64 (wrap64 (q * 1048576) + p) - 1)) p) = (q * 1048576 + p - 1) / p := by
    have hu : (q * 1048576 + p - 1) / p ≤ 1048576 := by
      have := Int.ediv_lt_of_lt_mul (a := q * 1048576 + p - 1) (b := 1048577) (c := p) (by omega) (by omega)
      omega
    have hv : 0 ≤ (q * 1048576 + p - 1) / p := Int.ediv_nonneg (by omega) (by omega)
    rw [w64 (n := q * 1048576) (by omega) (by omega), w64 (n := q * 1048576 + p) (by omega) (by omega), w64 (n := q * 1048576 + p - 1) (by omega) (by omega), tdiv_pos (by omega), w64 (by omega) (by omega)]
  unfold titheref01_Share.f titheref01_Valid.f titheref01_Units.f
  rw [if_neg (by omega), if_neg (by omega), if_neg (by omega)]
  simp only [Option.bind_some, if_true]
  rw [if_neg (by omega), e]
  rfl
theorem share_le {q p b : Int} (hp : 1 ≤ p) : (q * 1048576 + p - 1) / p ≤ b ↔ q ≤ b * p / 1048576 := by
  rw [Int.le_ediv_iff_mul_le (by omega)]
  constructor
  · intro h
    have := Int.lt_mul_of_ediv_lt (a := q * 1048576 + p - 1) (b := b + 1) (c := p) (by omega) (by omega)
    have e : (b + 1) * p = b * p + p := by rw [Int.add_mul, Int.one_mul]
    omega
  · intro h
    have := Int.ediv_lt_of_lt_mul (a := q * 1048576 + p - 1) (b := b + 1) (c := p) (by omega) (by
      have e : (b + 1) * p = b * p + p := by rw [Int.add_mul, Int.one_mul]
      omega)
    omega
theorem room_loop {p b : Int} (hp : 1 ≤ p) (hp2 : p ≤ 1048576) (hb : 0 ≤ b) (hb2 : b ≤ 1048576) : ∀ (d : Nat) (lo hi : Int), hi - lo ≤ d → 0 ≤ lo → hi ≤ p + 1 → lo ≤ b * p / 1048576 → b * p / 1048576 < hi →
    Evt (fun k => titheref08_Room.l0 k p b lo hi) (b * p / 1048576)
  | 0, lo, hi, h, _, _, h1, h2 => by omega
  | d + 1, lo, hi, h, h3, h4, h1, h2 => by
    refine Evt.succ ?_
    simp only [titheref08_Room.l0]
    rw [w64 (n := hi - lo) (by omega) (by omega), w64 (n := lo + hi) (by omega) (by omega), tdiv_pos (show 0 ≤ lo + hi by omega), w64 (n := (lo + hi) / 2) (by omega) (by omega)]
    by_cases hc : hi - lo > 1
    · refine Evt.ifp hc (Evt.call (ref_share (q := (lo + hi) / 2) (p := p) (by omega) (by omega) hp2) (Evt.ifp rfl ?_))
      by_cases hs : ((lo + hi) / 2 * 1048576 + p - 1) / p ≤ b
      · exact Evt.ifp hs (room_loop hp hp2 hb hb2 d _ _ (by omega) (by omega) h4 ((share_le hp).1 hs) h2)
      · have := mt (share_le (q := (lo + hi) / 2) (b := b) hp).2 hs
        exact Evt.ifn hs (room_loop hp hp2 hb hb2 d _ _ (by omega) h3 (by omega) h1 (by omega))
    · refine Evt.ifn hc (Evt.pure fun _ => ?_)
      have : lo = b * p / 1048576 := by omega
      rw [this]
theorem most_ok {u p : Int} (h0 : 0 ≤ u) (h1 : u ≤ 1048576) (hp : 1 ≤ p) (hp2 : p ≤ 1048576) : Evt (fun k => fixed_Most.f k u p) (u * p / 1048576, none) := by
  have hm : u * p ≤ 1048576 * 1048576 := Int.mul_le_mul h1 hp2 (by omega) (by omega)
  have hm0 : 0 ≤ u * p := Int.mul_nonneg h0 (by omega)
  have e : wrap64 (Int.tdiv (wrap64 (u * p)) 1048576) = u * p / 1048576 := by
    generalize u * p = m at *
    rw [w64 (n := m) (by omega) (by omega), tdiv_pos hm0, w64 (by omega) (by omega)]
  unfold fixed_Most.f
  refine Evt.ifn (by omega) (Evt.succ ?_)
  simp only [fixed_Most.j0]
  rw [e]
  exact Evt.ifn (by simpa using h1) (Evt.ifn (by omega) (Evt.ifn (by omega) (Evt.pure fun _ => rfl)))
theorem most_no {u p : Int} (h0 : 0 ≤ u) (h1 : u ≤ 1048576) (hp : p < 1 ∨ p > 1048576) : Evt (fun k => fixed_Most.f k u p) (0, some 2) := by
  unfold fixed_Most.f
  refine Evt.ifn (by omega) (Evt.succ ?_)
  simp only [fixed_Most.j0]
  refine Evt.ifn (by simpa using h1) ?_
  by_cases h : p < 1
  · exact Evt.ifp h (Evt.pure fun _ => rfl)
  · exact Evt.ifn h (Evt.ifp (by omega) (Evt.pure fun _ => rfl))
theorem room_rel {B : List S28} (hI : Inv B (bk B)) (p : Int) : ∃ r, Evt (fun k => admit_Book_Room.f k B p) (r, B) ∧ Evt (fun k => titheref08_Room.f k (bk B) p) r := by
  obtain ⟨hB, _, ht⟩ := hI
  have hl := bk_len hB
  have hok : ∀ c ∈ bk B, okc c := fun c hc => (in_bk hB hc).2.2
  have htb := tot_b _ hok
  have hw : wrap64 (1048576 - tot (bk B)) = 1048576 - tot (bk B) := w64 (by omega) (by omega)
  have hf : admit_Book_Free.f B = some (1048576 - tot (bk B), B) := by
    unfold admit_Book_Free.f bk_Sum.f
    simp only [Option.bind_some]
    rw [bkSum_eq hB, hw]
  have sm := Sum_evt (l := bk B) (by omega) hok
  unfold admit_Book_Room.f titheref08_Room.f
  by_cases hp : 1 ≤ p ∧ p ≤ 1048576
  · refine ⟨(1048576 - tot (bk B)) * p / 1048576, Evt.call hf (Evt.bind (most_ok (by omega) (by omega) hp.1 hp.2) (Evt.ifp rfl (Evt.pure fun _ => rfl))), Evt.ifn (by omega) (Evt.succ ?_)⟩
    simp only [titheref08_Room.j0]
    refine Evt.ifn (by simpa using hp.2) (Evt.bind sm ?_)
    rw [hw, w64 (n := p + 1) (by omega) (by omega)]
    have h1 : (1048576 - tot (bk B)) * p ≤ 1048576 * p := Int.mul_le_mul_of_nonneg_right (by omega) (by omega)
    have h2 : 0 ≤ (1048576 - tot (bk B)) * p := Int.mul_nonneg (by omega) (by omega)
    exact room_loop hp.1 hp.2 (by omega) (by omega) (p + 1).toNat 0 (p + 1) (by omega) (by omega) (by omega) (Int.ediv_nonneg h2 (by decide)) (by
      generalize (1048576 - tot (bk B)) * p = m at *
      omega)
  · refine ⟨0, Evt.call hf (Evt.bind (most_no (by omega) (by omega) (by omega)) (Evt.ifn (by simp) (Evt.pure fun _ => rfl))), ?_⟩
    by_cases h : p < 1
    · refine Evt.ifp h (Evt.succ ?_)
      simp only [titheref08_Room.j0]
      exact Evt.ifp (by simp) (Evt.pure fun _ => rfl)
    · refine Evt.ifn h (Evt.succ ?_)
      simp only [titheref08_Room.j0]
      exact Evt.ifp (by simp; omega) (Evt.pure fun _ => rfl)
theorem alike_evt {B : List S28} {l : List S51} (hI : Inv B l) (s p : Int) : Evt (fun k => tithelaw08_alike.f k B l s p) (true, B) := by
  have hI0 := hI
  obtain ⟨hB, rfl, ht⟩ := hI
  have hl := bk_len hB
  have hok : ∀ c ∈ bk B, okc c := fun c hc => (in_bk hB hc).2.2
  have htb := tot_b _ hok
  have sm := Sum_evt (l := bk B) (by omega) hok
  have hss := bkSum_eq hB
  have hlB : (bkL B).length ≤ 1000 := by unfold bk at hl; rw [List.length_map] at hl; omega
  obtain ⟨rm, r1, r2⟩ := room_rel hI0 p
  have tail : ∀ (x10 : Bool) (x11 a b c : Int) (d : Bool), x10 = decide (x11 ≥ 0) → Evt (fun k => tithelaw08_alike.j0 k (bk B) p x10 x11 B a b c d a b c d) (true, B) := by
    intro x10 x11 a b c d hx
    refine Evt.succ ?_
    simp only [tithelaw08_alike.j0]
    refine Evt.bind sm (Evt.call (a := (bkL B, B)) rfl (Evt.bind (same_evt hlB) (Evt.ifp rfl (Evt.call (a := (bkSum B, B)) rfl (Evt.ifp hss (Evt.call (a := (wrap64 (1048576 - bkSum B), B)) rfl (Evt.ifp (by show wrap64 (1048576 - bkSum B) = _; rw [hss]) (Evt.ifp (by simp) (Evt.ifp (by rw [hx]; simp) (Evt.bind r1 (Evt.bind r2 (Evt.pure fun _ => by simp))))))))))))
  unfold tithelaw08_alike.f
  cases hA : bkAt B s with
  | true =>
    obtain ⟨L1, L2, a1, a2, a3, e, hs, hk, hf, a4⟩ := at_claim hB hA
    have hr : rd_T51 (bk B) (L1.length : Int) = cv (bkGet B s) := by rw [e]; exact rd_mid _ _ _
    have hlen : (bk B).length = L1.length + (L2.length + 1) := by rw [e]; simp
    have ho : bk_Of.f B s = some ((bkGet B s).f0, (bkGet B s).f1, (bkGet B s).f2, (bkGet B s).f3, true, B) := by unfold bk_Of.f bkOf; rw [if_pos hA]
    refine Evt.call ho (Evt.bind hf (Evt.ifp (by omega) (Evt.ifp (by omega) (Evt.ifp (by omega) ?_))))
    rw [hr]
    exact tail true _ _ _ _ _ (by simp)
  | false =>
    have ho : bk_Of.f B s = some (0, 0, 0, false, false, B) := by unfold bk_Of.f bkOf; rw [if_neg (by rw [hA]; decide)]
    refine Evt.call ho (Evt.bind (find_none hB hA) (Evt.ifn (by omega) ?_))
    exact tail false _ _ _ _ _ (by simp)
theorem runs_evt {acts : List S26} {p : Int} (hm : acts.length ≤ 9223372036854775806) : ∀ (d i : Nat) (B : List S28) (l : List S51), i + d = acts.length → Inv B l →
    Evt (fun k => tithelaw08_AdmitRuns.l0 k acts p l (i : Int) B) true
  | 0, i, B, l, h, hI => by
    refine Evt.succ ?_
    simp only [tithelaw08_AdmitRuns.l0]
    exact Evt.ifn (by omega) (Evt.call works08 (Evt.pure fun _ => rfl))
  | d + 1, i, B, l, h, hI => by
    refine Evt.succ ?_
    simp only [tithelaw08_AdmitRuns.l0]
    obtain ⟨l', B', h1, h2⟩ := do_rel hI (rd_T26 acts (i : Int)).f0 (rd_T26 acts (i : Int)).f1 (rd_T26 acts (i : Int)).f2
    refine Evt.ifp (by omega) (Evt.ifp (by omega) (Evt.bind h1 (Evt.ifp rfl (Evt.bind (alike_evt h2 _ _) (Evt.ifp rfl ?_)))))
    rw [w1 i (by omega)]
    exact runs_evt hm d (i + 1) B' l' (by omega) h2
theorem AdmitRuns : tithelaw08_AdmitRuns.Pure := by
  intro acts p hlen hby _ _
  refine Evt.ex ?_
  unfold tithelaw08_AdmitRuns.f
  exact Evt.call (a := bkNew) rfl (by simpa using runs_evt (acts := acts) (p := p) (by omega) acts.length 0 bkNew [] (by omega) new_inv)
end Go.Proofs.YtaoicceakgipgaaDoor.Pure
