/- Proved: the law SupplyMet over its printed function: a supply whose first period is served at its begin and the others at their ends has no more than Least behind the first one's ticks; turned round, one has no less than Most. No conditions. -/
import Derived.Test.YtaoicceakgipgaaXx2
import Derived.Test.YtaoicceakgipgaaSupplyBase
namespace Go.Proofs.Ytaoicceakgipgaa.Pure
open Go Go.RowKit Tithe Go.Proofs.Ytaoicceakgipgaa.X Go.Proofs.YtaoicceakgipgaaW.PrintWords Go.Proofs.YtaoicceakgipgaaW.PrintLast Go.Proofs.YtaoicceakgipgaaW.PrintMore

/-- a period served at its begin, at its end -/
def PA (P Q : Nat) : List Bool := List.replicate Q true ++ List.replicate (P - Q) false
def PB (P Q : Nat) : List Bool := List.replicate (P - Q) false ++ List.replicate Q true
/-- m periods alike -/
def Ms (b : List Bool) : Nat → List Bool
  | 0 => []
  | m + 1 => Ms b m ++ b

theorem PA_length {P Q : Nat} (h : Q ≤ P) : (PA P Q).length = P := by simp [PA]; omega
theorem PB_length {P Q : Nat} (h : Q ≤ P) : (PB P Q).length = P := by simp [PB]; omega
theorem Ms_length (b : List Bool) (m : Nat) : (Ms b m).length = m * b.length := by
  induction m with
  | zero => simp [Ms]
  | succ m ih => simp only [Ms, List.length_append, ih, Nat.succ_mul]

theorem PA_set {P j : Nat} (h : j < P) : (PA P j).set j true = PA P (j + 1) := by
  apply List.ext_getElem
  · simp [PA]; omega
  · intro i h1 h2
    rw [List.getElem_set]
    simp only [PA, List.getElem_append, List.getElem_replicate, List.length_replicate]
    split <;> split <;> try split
    all_goals first | rfl | omega

theorem PB_set {P j : Nat} (h : j < P) : (PB P j).set (P - 1 - j) true = PB P (j + 1) := by
  apply List.ext_getElem
  · simp [PB]; omega
  · intro i h1 h2
    rw [List.getElem_set]
    simp only [PB, List.getElem_append, List.getElem_replicate, List.length_replicate]
    split <;> split <;> try split
    all_goals first | rfl | omega

theorem ct_not (l : List Bool) : ct (l.map not) + ct l = l.length := by
  induction l with
  | nil => rfl
  | cons b l ih => cases b <;> simp [ct] at * <;> omega

theorem PA_not {P Q : Nat} (h : Q ≤ P) : (PA P Q).map not = PB P (P - Q) := by
  simp [PA, PB, show P - (P - Q) = Q by omega]
theorem PB_not {P Q : Nat} (h : Q ≤ P) : (PB P Q).map not = PA P (P - Q) := by
  simp [PA, PB, show P - (P - Q) = Q by omega]
theorem Ms_not (b : List Bool) (m : Nat) : (Ms b m).map not = Ms (b.map not) m := by
  induction m with
  | zero => rfl
  | succ m ih => simp only [Ms, List.map_append, ih]

theorem ct_PB_take {P Q : Nat} (h : Q ≤ P) (r : Nat) (hr : r ≤ P) : (ct ((PB P Q).take r) : Int) = max 0 ((r : Int) - (P - Q)) := by
  unfold PB
  rw [List.take_append, ct_append, List.take_replicate, ct_replicate_false, List.length_replicate, List.take_replicate]
  simp [ct]; omega

theorem ct_Ms_take {P Q : Nat} (h : Q ≤ P) (hP : 0 < P) : ∀ (m k r : Nat), r < P → k * P + r ≤ m * P → (ct ((Ms (PB P Q) m).take (k * P + r)) : Int) = k * Q + max 0 ((r : Int) - (P - Q))
  | 0, k, r, hr, hle => by
    have h0 : k * P = 0 := by omega
    have hk : k = 0 := by rcases Nat.mul_eq_zero.1 h0 with h | h <;> omega
    subst hk
    obtain rfl : r = 0 := by omega
    simp [Ms, ct]; omega
  | m + 1, k, r, hr, hle => by
    have hl : (Ms (PB P Q) m).length = m * P := by rw [Ms_length, PB_length h]
    by_cases hm : k * P + r ≤ m * P
    · have := ct_Ms_take h hP m k r hr hm
      simp only [Ms]; rw [List.take_append_of_le_length (by rw [hl]; exact hm)]; exact this
    · rw [Nat.succ_mul] at hle
      have hfull := ct_Ms_take h hP m m 0 hP (by omega)
      rw [Nat.add_zero, List.take_of_length_le (by rw [hl]; omega)] at hfull
      have e : (Ms (PB P Q) (m + 1)).take (k * P + r) = Ms (PB P Q) m ++ (PB P Q).take (k * P + r - m * P) := by
        simp only [Ms]; rw [List.take_append, hl, List.take_of_length_le (by rw [hl]; omega)]
      rw [e, ct_append]
      have hc := ct_PB_take h (k * P + r - m * P) (by omega)
      have hkm : k = m ∨ k = m + 1 := by
        have h1 : m ≤ k := by
          by_cases h' : m ≤ k
          · exact h'
          · have : (k + 1) * P ≤ m * P := Nat.mul_le_mul_right _ (by omega)
            rw [Nat.succ_mul] at this; omega
        have h2 : k ≤ m + 1 := by
          by_cases h' : k ≤ m + 1
          · exact h'
          · have : (m + 2) * P ≤ k * P := Nat.mul_le_mul_right _ (by omega)
            rw [Nat.succ_mul, Nat.succ_mul] at this; omega
        omega
      rcases hkm with rfl | rfl
      · rw [show k * P + r - k * P = r by omega] at hc ⊢
        omega
      · rw [Nat.succ_mul] at hle hm hc ⊢
        obtain rfl : r = 0 := by omega
        rw [show m * P + P + 0 - m * P = P by omega] at hc ⊢
        have : (((m + 1 : Nat) : Int)) * Q = m * Q + Q := by rw [show ((m + 1 : Nat) : Int) = (m : Int) + 1 by omega, Int.add_mul]; omega
        omega

/-- behind the first period's ticks: the least supply -/
theorem met {P Q : Nat} (h : Q ≤ P) (hP : 0 < P) (m t : Nat) (ht : t ≤ m * P) : (ct ((List.replicate (P - Q) false ++ Ms (PB P Q) m).take t) : Int) = lst Q P t := by
  unfold lst
  rw [List.take_append, ct_append, List.take_replicate, ct_replicate_false, List.length_replicate]
  by_cases hg : (t : Int) ≤ P - Q
  · rw [if_pos hg, show t - (P - Q) = 0 by omega]; simp [ct]
  · rw [if_neg hg]
    have e := Nat.div_add_mod (t - (P - Q)) P
    have hr := Nat.mod_lt (t - (P - Q)) hP
    rw [Nat.mul_comm] at e
    have hc := ct_Ms_take h hP m ((t - (P - Q)) / P) ((t - (P - Q)) % P) hr (by omega)
    rw [e] at hc
    rw [Nat.zero_add, hc]
    generalize hk : (t - (P - Q)) / P = k at *
    generalize hr' : (t - (P - Q)) % P = r at *
    have : (t : Int) - (P - Q) = (k : Int) * P + r := by
      have : ((k * P : Nat) : Int) = (k : Int) * P := by simp
      omega
    rw [this, fsup_eq (by omega) (by omega)]

theorem met_most {P Q : Nat} (h : Q ≤ P) (hP : 0 < P) (m t : Nat) (ht : t ≤ m * P) :
    (ct ((List.replicate Q true ++ Ms (PA P Q) m).take t) : Int) = t - lst (P - Q) P t := by
  have h1 := met (P := P) (Q := P - Q) (by omega) hP m t ht
  rw [show P - (P - Q) = Q by omega] at h1
  have h2 := ct_not ((List.replicate Q true ++ Ms (PA P Q) m).take t)
  rw [List.map_take, List.map_append, Ms_not, PA_not h] at h2
  simp only [List.map_replicate, Bool.not_true] at h2
  have hl : ((List.replicate Q true ++ Ms (PA P Q) m).take t).length = t := by
    rw [List.length_take, List.length_append, Ms_length, PA_length h]; simp; omega
  rw [hl] at h2
  rw [show ((P : Int) - Q) = ((P - Q : Nat) : Int) by omega]
  omega

/-- n periods, the first one otherwise -/
def Fs (a b : List Bool) : Nat → List Bool
  | 0 => []
  | n + 1 => a ++ Ms b n
theorem Fs_step (a b : List Bool) (n : Nat) : Fs a b n ++ (if n = 0 then a else b) = Fs a b (n + 1) := by
  cases n with
  | zero => simp [Fs, Ms]
  | succ n => simp [Fs, Ms]
theorem Fs_length {a b : List Bool} {P : Nat} (ha : a.length = P) (hb : b.length = P) (n : Nat) : (Fs a b n).length = n * P := by
  cases n with
  | zero => simp [Fs]
  | succ n => simp only [Fs, List.length_append, Ms_length, ha, hb, Nat.succ_mul]; omega

section
variable {P Q t : Nat} (hP : 1 ≤ P) (hP40 : P ≤ 40) (hQ : 1 ≤ Q) (hQP : Q ≤ P) (ht : t < 200)
include hP hP40 hQ hQP ht

theorem cut_A {n : Nat} (hn : t + P ≤ n * P) : (ct (((Fs (PA P Q) (PB P Q) n).take (Q + t)).drop Q) : Int) = lst Q P t := by
  cases n with
  | zero => omega
  | succ n =>
    rw [Nat.succ_mul] at hn
    rw [List.drop_take]
    have : (Fs (PA P Q) (PB P Q) (n + 1)).drop Q = List.replicate (P - Q) false ++ Ms (PB P Q) n := by
      simp only [Fs, PA]; rw [List.append_assoc, List.drop_left' (by simp)]
    rw [this, show Q + t - Q = t by omega]
    exact met hQP (by omega) n t (by omega)

theorem cut_B {n : Nat} (hn : t + P ≤ n * P) : (ct (((Fs (PB P Q) (PA P Q) n).take (P - Q + t)).drop (P - Q)) : Int) = t - lst (P - Q) P t := by
  cases n with
  | zero => omega
  | succ n =>
    rw [Nat.succ_mul] at hn
    rw [List.drop_take]
    have : (Fs (PB P Q) (PA P Q) (n + 1)).drop (P - Q) = List.replicate Q true ++ Ms (PA P Q) n := by
      simp only [Fs, PB]; rw [List.append_assoc, List.drop_left' (by simp)]
    rw [this, show P - Q + t - (P - Q) = t by omega]
    exact met_most hQP (by omega) n t (by omega)

theorem l2_evt {x8 : List Bool} (hx8 : ∃ n, t + P ≤ n * P ∧ x8 = Fs (PA P Q) (PB P Q) n ∧ n ≤ 300) : ∀ (d n : Nat), t + P ≤ n * P + d → n ≤ 240 →
    Evt (fun k => tithelaw21_SupplyMet.l2 k t x8 (lst Q P t) none (Fs (PB P Q) (PA P Q) n) n Q P) true := by
  intro d
  induction d with
  | zero =>
    intro n hd hn
    obtain ⟨n8, h8, rfl, h8'⟩ := hx8
    refine Evt.succ ?_
    simp only [tithelaw21_SupplyMet.l2]
    have l8 := Fs_length (PA_length hQP) (PB_length hQP) n8
    have l14 := Fs_length (PB_length hQP) (PA_length hQP) n
    have b8 : n8 * P ≤ 300 * 40 := Nat.mul_le_mul h8' hP40
    have b14 : n * P ≤ 240 * 40 := Nat.mul_le_mul hn hP40
    rw [w64 (n := (t : Int) + P) (by omega) (by omega), w64 (n := (Q : Int) + t) (by omega) (by omega), w64 (n := (P : Int) - Q) (by omega) (by omega), w64 (n := (P : Int) - Q + t) (by omega) (by omega)]
    refine Evt.ifn (by omega) (Evt.call (Most_ok (by omega) (by omega) (by omega) (by omega) (by omega)) ?_)
    simp only [Option.isNone_none, if_true]
    refine Evt.ifp (by omega) (Evt.ifp (by omega) (Evt.ifp (by omega) ?_))
    rw [show ((Q : Int) + t).toNat = Q + t by omega, show (Q : Int).toNat = Q by omega, show ((P : Int) - Q + t).toNat = P - Q + t by omega, show ((P : Int) - Q).toNat = P - Q by omega]
    refine Evt.bind (count_evt _ (by rw [List.length_drop, List.length_take]; omega)) ?_
    refine Evt.ifp (cut_A hP hP40 hQ hQP ht h8) (Evt.ifp (by omega) (Evt.ifp (by omega) (Evt.ifp (by omega) ?_)))
    refine Evt.bind (count_evt _ (by rw [List.length_drop, List.length_take]; omega)) ?_
    exact Evt.ifp (cut_B hP hP40 hQ hQP ht (by omega)) (Evt.call sure_ok (Evt.pure fun _ => rfl))
  | succ d ih =>
    intro n hd hn
    by_cases hlt : t + P ≤ n * P + d
    · exact ih n hlt hn
    · have l14 := Fs_length (PB_length hQP) (PA_length hQP) n
      have b14 : n * P ≤ 240 * 40 := Nat.mul_le_mul hn hP40
      have next : Evt (fun k => tithelaw21_SupplyMet.l2 k t x8 (lst Q P t) none (Fs (PB P Q) (PA P Q) n ++ (if n = 0 then PB P Q else PA P Q)) (wrap64 ((n : Int) + 1)) Q P) true := by
        rw [Fs_step, w64 (by omega) (by omega)]
        have := ih (n + 1) (by rw [Nat.succ_mul]; omega) (by
          have : n * 1 ≤ n * P := Nat.mul_le_mul_left _ hP
          omega)
        rwa [show ((n + 1 : Nat) : Int) = (n : Int) + 1 by omega] at this
      have inner : ∀ (e j : Nat), j + e = Q → Evt (fun k => tithelaw21_SupplyMet.l3 k t x8 (lst Q P t) none (Fs (PB P Q) (PA P Q) n) n (if n = 0 then PB P j else PA P j) j Q P) true := by
        intro e
        induction e with
        | zero =>
          intro j hj
          obtain rfl : j = Q := by omega
          refine Evt.succ ?_
          simp only [tithelaw21_SupplyMet.l3]
          refine Evt.ifn (by omega) (Evt.ifp ?_ next)
          split
          · rw [PB_length hQP]; omega
          · rw [PA_length hQP]; omega
        | succ e ihe =>
          intro j hj
          have nx := ihe (j + 1) (by omega)
          rw [show ((j + 1 : Nat) : Int) = (j : Int) + 1 by omega] at nx
          refine Evt.succ ?_
          simp only [tithelaw21_SupplyMet.l3]
          rw [w64 (n := (P : Int) - 1) (by omega) (by omega), w64 (n := (P : Int) - 1 - j) (by omega) (by omega), w64 (n := (j : Int) + 1) (by omega) (by omega)]
          refine Evt.ifp (by omega) ?_
          by_cases h0 : n = 0
          · rw [if_pos h0] at nx ⊢
            refine Evt.ifp (by omega) (Evt.ifp (by omega) (Evt.ifp (by rw [PB_length (by omega)]; omega) ?_))
            rw [show ((P : Int) - 1 - j).toNat = P - 1 - j by omega, PB_set (by omega)]; exact nx
          · rw [if_neg h0] at nx ⊢
            refine Evt.ifn (by omega) (Evt.ifp (by omega) (Evt.ifp (by rw [PA_length (by omega)]; omega) ?_))
            rw [show (j : Int).toNat = j by omega, PA_set (by omega)]; exact nx
      refine Evt.succ ?_
      simp only [tithelaw21_SupplyMet.l2]
      rw [w64 (n := (t : Int) + P) (by omega) (by omega)]
      refine Evt.ifp (by omega) (Evt.ifp (by omega) (Evt.ifp (by omega) ?_))
      have := inner Q 0 (by omega)
      rw [show (P : Int).toNat = P by omega]
      rw [show (if n = 0 then PB P 0 else PA P 0) = List.replicate P false by split <;> simp [PA, PB]] at this
      exact this

theorem l0_evt : ∀ (d n : Nat), t + P ≤ n * P + d → n ≤ 240 → Evt (fun k => tithelaw21_SupplyMet.l0 k t (Fs (PA P Q) (PB P Q) n) n Q P) true := by
  intro d
  induction d with
  | zero =>
    intro n hd hn
    have l8 := Fs_length (PA_length hQP) (PB_length hQP) n
    have b8 : n * P ≤ 240 * 40 := Nat.mul_le_mul hn hP40
    refine Evt.succ ?_
    simp only [tithelaw21_SupplyMet.l0]
    rw [w64 (n := (t : Int) + P) (by omega) (by omega)]
    refine Evt.ifn (by omega) (Evt.call (Least_ok (by omega) (by omega) (by omega) (by omega) (by omega)) ?_)
    have := l2_evt hP hP40 hQ hQP ht (x8 := Fs (PA P Q) (PB P Q) n) ⟨n, by omega, rfl, by omega⟩ (t + P) 0 (by omega) (by omega)
    exact this
  | succ d ih =>
    intro n hd hn
    by_cases hlt : t + P ≤ n * P + d
    · exact ih n hlt hn
    · have l8 := Fs_length (PA_length hQP) (PB_length hQP) n
      have b8 : n * P ≤ 240 * 40 := Nat.mul_le_mul hn hP40
      have next : Evt (fun k => tithelaw21_SupplyMet.l0 k t (Fs (PA P Q) (PB P Q) n ++ (if n = 0 then PA P Q else PB P Q)) (wrap64 ((n : Int) + 1)) Q P) true := by
        rw [Fs_step, w64 (by omega) (by omega)]
        have := ih (n + 1) (by rw [Nat.succ_mul]; omega) (by
          have : n * 1 ≤ n * P := Nat.mul_le_mul_left _ hP
          omega)
        rwa [show ((n + 1 : Nat) : Int) = (n : Int) + 1 by omega] at this
      have inner : ∀ (e j : Nat), j + e = Q → Evt (fun k => tithelaw21_SupplyMet.l1 k t (Fs (PA P Q) (PB P Q) n) n (if n = 0 then PA P j else PB P j) j Q P) true := by
        intro e
        induction e with
        | zero =>
          intro j hj
          obtain rfl : j = Q := by omega
          refine Evt.succ ?_
          simp only [tithelaw21_SupplyMet.l1]
          refine Evt.ifn (by omega) (Evt.ifp ?_ next)
          split
          · rw [PA_length hQP]; omega
          · rw [PB_length hQP]; omega
        | succ e ihe =>
          intro j hj
          have nx := ihe (j + 1) (by omega)
          rw [show ((j + 1 : Nat) : Int) = (j : Int) + 1 by omega] at nx
          refine Evt.succ ?_
          simp only [tithelaw21_SupplyMet.l1]
          rw [w64 (n := (P : Int) - 1) (by omega) (by omega), w64 (n := (P : Int) - 1 - j) (by omega) (by omega), w64 (n := (j : Int) + 1) (by omega) (by omega)]
          refine Evt.ifp (by omega) ?_
          by_cases h0 : n = 0
          · rw [if_pos h0] at nx ⊢
            refine Evt.ifp (by omega) (Evt.ifp (by omega) (Evt.ifp (by rw [PA_length (by omega)]; omega) ?_))
            rw [show (j : Int).toNat = j by omega, PA_set (by omega)]; exact nx
          · rw [if_neg h0] at nx ⊢
            refine Evt.ifn (by omega) (Evt.ifp (by omega) (Evt.ifp (by rw [PB_length (by omega)]; omega) ?_))
            rw [show ((P : Int) - 1 - j).toNat = P - 1 - j by omega, PB_set (by omega)]; exact nx
      refine Evt.succ ?_
      simp only [tithelaw21_SupplyMet.l0]
      rw [w64 (n := (t : Int) + P) (by omega) (by omega)]
      refine Evt.ifp (by omega) (Evt.ifp (by omega) (Evt.ifp (by omega) ?_))
      have := inner Q 0 (by omega)
      rw [show (P : Int).toNat = P by omega]
      rw [show (if n = 0 then PA P 0 else PB P 0) = List.replicate P false by split <;> simp [PA, PB]] at this
      exact this
end

theorem SupplyMet : tithelaw21_SupplyMet.Pure := by
  intro q p t _ _ _
  refine Evt.ex ?_
  have hp := umod (n := p) (c := 40) (by omega) (by omega)
  obtain ⟨p', hp'⟩ : ∃ p' : Nat, wrap64 (Int.tmod (IntKind.u64.wrap p) 40) = p' := ⟨(wrap64 (Int.tmod (IntKind.u64.wrap p) 40)).toNat, by omega⟩
  have ht := umod (n := t) (c := 200) (by omega) (by omega)
  obtain ⟨t', ht'⟩ : ∃ t' : Nat, wrap64 (Int.tmod (IntKind.u64.wrap t) 200) = t' := ⟨(wrap64 (Int.tmod (IntKind.u64.wrap t) 200)).toNat, by omega⟩
  unfold tithelaw21_SupplyMet.f
  rw [hp'] at hp ⊢
  rw [ht'] at ht ⊢
  rw [w64 (n := 1 + (p' : Int)) (by omega) (by omega), u64_same (n := 1 + (p' : Int)) (by omega) (by omega)]
  have hq := umod (n := q) (c := 1 + (p' : Int)) (by omega) (by omega)
  obtain ⟨q', hq'⟩ : ∃ q' : Nat, wrap64 (Int.tmod (IntKind.u64.wrap q) (1 + (p' : Int))) = q' := ⟨(wrap64 (Int.tmod (IntKind.u64.wrap q) (1 + (p' : Int)))).toNat, by omega⟩
  rw [hq'] at hq ⊢
  rw [w64 (n := 1 + (q' : Int)) (by omega) (by omega)]
  refine Evt.ifn (by omega) ?_
  have := l0_evt (P := 1 + p') (Q := 1 + q') (t := t') (by omega) (by omega) (by omega) (by omega) (by omega) (t' + (1 + p')) 0 (by omega) (by omega)
  rw [show ((1 + p' : Nat) : Int) = 1 + (p' : Int) by omega, show ((1 + q' : Nat) : Int) = 1 + (q' : Int) by omega] at this
  exact this
end Go.Proofs.Ytaoicceakgipgaa.Pure
