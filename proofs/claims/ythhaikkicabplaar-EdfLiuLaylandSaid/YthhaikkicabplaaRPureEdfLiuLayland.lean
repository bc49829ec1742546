/- Proved: the law EdfLiuLayland over its printed function: where the shares are at most the whole, each period has its budget. Some lemmas of other texts (EdfRefMiss, EdfRule, EdfDem, EdfLoad) stand here again, so that the claim has fewer files. No conditions. -/
import Derived.Test.YthhaikkicabplaaRDefEdfLiuLayland
import Derived.Test.YthhaikkicabplaaRXx27
import Derived.Test.YthhaikkicabplaaRXx37
import Derived.Test.YthhaikkicabplaaRXx38
import Derived.Test.YthhaikkicabplaaREdfMiss
namespace Go.Proofs.YthhaikkicabplaaR.Pure
open Go Go.RowKit Tithe Go.Proofs.YthhaikkicabplaaR.X Go.Proofs.YthhaikkicabplaaRW.PrintWords Go.Proofs.YthhaikkicabplaaRW.PrintLast Go.Proofs.YthhaikkicabplaaRW.PrintMore

theorem mx_max (a b : Int) : mx a b = max a b := by unfold mx; omega

/-- a time -/
def Tm (a : Int) : Prop := 0 ≤ a ∧ a ≤ 1073741824
instance (a : Int) : Decidable (Tm a) := inferInstanceAs (Decidable (0 ≤ a ∧ a ≤ 1073741824))

theorem is_eq (a : Int) : edf_is.f a = some (decide (Tm a)) := by
  unfold edf_is.f
  by_cases h : a ≥ 0
  · rw [if_pos h]
    by_cases h2 : a ≤ 1073741824
    · rw [decide_eq_true h2, decide_eq_true (show Tm a from ⟨h, h2⟩)]
    · rw [decide_eq_false h2, decide_eq_false (show ¬ Tm a from fun hh => h2 hh.2)]
  · rw [if_neg h, decide_eq_false (show ¬ Tm a from fun hh => h hh.1)]

theorem some_evt (o : List Int) (hl : o.length ≤ 140737488351232) : Evt (fun k => tithelaw10_some.f k o) (decide (∃ j, j < o.length ∧ rd o (j : Nat) ≠ 0)) := by
  unfold tithelaw10_some.f
  have key : ∀ (d i : Nat), i + d = o.length → (∀ j, j < i → rd o (j : Nat) = 0) → Evt (fun k => tithelaw10_some.l0 k o i) (decide (∃ j, j < o.length ∧ rd o (j : Nat) ≠ 0)) := by
    intro d
    induction d with
    | zero =>
      intro i hi ha
      refine Evt.succ ?_
      simp only [tithelaw10_some.l0]
      refine Evt.ifn (by omega) (Evt.pure fun _ => ?_)
      rw [decide_eq_false]
      rintro ⟨j, hj, hne⟩
      exact hne (ha j (by omega))
    | succ d ih =>
      intro i hi ha
      refine Evt.succ ?_
      simp only [tithelaw10_some.l0]
      refine Evt.ifp (by omega) (Evt.ifp (by omega) ?_)
      by_cases h : rd o (i : Nat) = 0
      · refine Evt.ifp h ?_
        rw [w1 i (by omega)]
        refine ih (i + 1) (by omega) (fun j hj => ?_)
        by_cases e : j = i
        · rw [e]; exact h
        · exact ha j (by omega)
      · refine Evt.ifn h (Evt.pure fun _ => ?_)
        rw [decide_eq_true ⟨i, by omega, h⟩]
  exact key o.length 0 (by omega) (fun j hj => by omega)

/-- nothing is missed: each period that lies in the plan has its budget -/
theorem miss_none {l : List S43} (hv : vLL l = 0) (pl : List Int) :
    (¬ ∃ j, j < ((List.range l.length).map (fun j => missI (It l) (rd pl) pl.length j)).length ∧ rd ((List.range l.length).map (fun j => missI (It l) (rd pl) pl.length j)) (j : Nat) ≠ 0) ↔
      ∀ j, j < (It l).m → ∀ k : Nat, (It l).s j + k * (It l).p j + (It l).p j ≤ pl.length → (It l).q j ≤ cn (rd pl) j ((It l).s j + k * (It l).p j) ((It l).s j + k * (It l).p j + (It l).p j) := by
  have hI := It_fine hv
  have hrd : ∀ j, j < l.length → rd ((List.range l.length).map (fun j => missI (It l) (rd pl) pl.length j)) (j : Nat) = missI (It l) (rd pl) pl.length j := by
    intro j hj
    rw [rdI (by simpa using hj)]; simp
  have hz : ∀ j, j < l.length → (missI (It l) (rd pl) pl.length j = 0 ↔ ∀ k : Nat, (It l).s j + k * (It l).p j + (It l).p j ≤ pl.length → (It l).q j ≤ cn (rd pl) j ((It l).s j + k * (It l).p j) ((It l).s j + k * (It l).p j + (It l).p j)) := by
    intro j hj
    have := hI.2 j hj
    unfold missI
    exact missN_zero (by omega) _ _ (by omega)
  constructor
  · intro h j hj k hk
    have hj' : j < l.length := hj
    have h0 : missI (It l) (rd pl) pl.length j = 0 := by
      by_cases e : missI (It l) (rd pl) pl.length j = 0
      · exact e
      · exact absurd ⟨j, by simpa using hj', by rw [hrd j hj']; exact e⟩ h
    exact (hz j hj').1 h0 k hk
  · rintro h ⟨j, hj, hne⟩
    have hj' : j < l.length := by simpa using hj
    rw [hrd j hj'] at hne
    exact hne ((hz j hj').2 (fun k hk => h j hj' k hk))

theorem pick_rule {I : Items} {pl : Int → Int} {t : Int} (h : PickIs I.m (fun j => (j : Int)) (lfA I pl t) (enA I t) (pl t)) : I.Rule pl t := by
  have hEl : ∀ j, I.El pl j t → 0 < lfA I pl t j ∧ enA I t j = I.en j t := by
    rintro j ⟨h1, h2⟩
    unfold lfA enA
    rw [if_neg (by omega), if_neg (by omega)]
    exact ⟨by omega, rfl⟩
  have hBack : ∀ j, 0 < lfA I pl t j → I.El pl j t ∧ enA I t j = I.en j t := by
    intro j h
    unfold lfA at h
    unfold enA
    by_cases hs : t < I.s j
    · rw [if_pos hs] at h; omega
    · rw [if_neg hs] at h ⊢
      exact ⟨⟨by omega, by omega⟩, rfl⟩
  rcases h with ⟨h1, h2⟩ | ⟨j, hj, h1, h2, h3⟩
  · refine .inl ⟨h1, fun j hj hel => ?_⟩
    have a := h2 j hj
    have b := (hEl j hel).1
    omega
  · obtain ⟨e1, e2⟩ := hBack j h2
    refine .inr ⟨j, hj, h1, e1, fun k hk hel => ?_⟩
    obtain ⟨f1, f2⟩ := hEl k hel
    have := h3 k hk f1
    rw [← e2, ← f2]
    rcases this with h | ⟨h, _⟩
    · exact Int.le_of_lt h
    · exact Int.le_of_eq h

theorem greedy_rule {I : Items} {p : List Int} {n : Nat} (hg : Greedy I p n) : ∀ t : Int, 0 ≤ t → t < n → I.Rule (rd p) t := by
  intro t h0 h1
  obtain ⟨t', rfl⟩ : ∃ t' : Nat, t = t' := ⟨t.toNat, by omega⟩
  exact pick_rule (hg.2 t' (by omega))

theorem greedy_not_bad {I : Items} {p : List Int} {n : Nat} (hg : Greedy I p n) : ¬ Bad p I.m := by
  rintro ⟨t, ht, hb⟩
  have := (hg.2 t (by have := hg.1; omega)).range
  omega

/-- each period has its budget at least -/
def AllHad (I : Items) (pl : Int → Int) (n : Int) : Prop := ∀ j, j < I.m → ∀ k : Nat, I.s j + k * I.p j + I.p j ≤ n → I.q j ≤ cn pl j (I.s j + k * I.p j) (I.s j + k * I.p j + I.p j)

/-- where no stretch asks for too much, nothing is missed -/
theorem greedy_all {I : Items} (hI : Fine I) {p : List Int} {n : Nat} (hg : Greedy I p n) (hd : ∀ a b : Int, 0 ≤ a → a ≤ b → b ≤ n → I.dem a b ≤ b - a) : AllHad I (rd p) n := by
  intro j hj k hk
  by_cases h : I.q j ≤ cn (rd p) j (I.s j + k * I.p j) (I.s j + k * I.p j + I.p j)
  · exact h
  · obtain ⟨a, b, h0, h1, h2, h3⟩ := Items.missed hI.ok (greedy_rule hg) hj (k := k) (by omega) hk (by omega)
    have := hd a b h0 h1 h2
    omega

/-- where any plan misses nothing, no stretch asks for too much -/
theorem all_dem {I : Items} (hI : Fine I) {pl : Int → Int} {n : Int} (h : AllHad I pl n) {a b : Int} (hab : a ≤ b) (hb : b ≤ n) : I.dem a b ≤ b - a := by
  by_cases hd : I.dem a b ≤ b - a
  · exact hd
  · refine absurd ?_ (fun h => h)
    refine Items.too_much hI.ok pl hab hb (by omega) (fun j hj k hk hle => ?_)
    obtain ⟨k', rfl⟩ : ∃ k' : Nat, k = k' := ⟨k.toNat, by omega⟩
    exact h j hj k' hle

theorem greedy_best {I : Items} (hI : Fine I) {p : List Int} {n : Nat} (hg : Greedy I p n) {pl : Int → Int} (h : AllHad I pl n) : AllHad I (rd p) n :=
  greedy_all hI hg (fun _ _ _ hab hb => all_dem hI h hab hb)

/-- a share, in units, rounded up -/
def shr (I : Items) (j : Nat) : Int := (I.q j * 1048576 + I.p j - 1) / I.p j

theorem shr_ok {I : Items} (hI : Fine I) {j : Nat} (hj : j < I.m) : 0 ≤ shr I j ∧ shr I j ≤ 1099512676351 ∧ I.q j * 1048576 ≤ shr I j * I.p j := by
  have h := hI.2 j hj
  unfold shr
  have h1 := Int.mul_ediv_add_emod (I.q j * 1048576 + I.p j - 1) (I.p j)
  have h2 := Int.emod_lt_of_pos (I.q j * 1048576 + I.p j - 1) (b := I.p j) (by omega)
  have h3 := Int.ediv_nonneg (a := I.q j * 1048576 + I.p j - 1) (b := I.p j) (by omega) (by omega)
  have h4 := Int.ediv_le_self (a := I.q j * 1048576 + I.p j - 1) (I.p j) (by omega)
  rw [Int.mul_comm] at h1
  exact ⟨h3, by omega, by omega⟩

theorem share_eq {q p : Int} (h : 1 ≤ q ∧ q ≤ p ∧ p ≤ 1048576) : fixed_Share.f q p = some ((q * 1048576 + p - 1) / p, none) := by
  unfold fixed_Share.f fixed_Valid.f
  have h3 := Int.ediv_nonneg (a := q * 1048576 + p - 1) (b := p) (by omega) (by omega)
  have h4 := Int.ediv_le_self (a := q * 1048576 + p - 1) p (by omega)
  rw [if_neg (by omega), if_neg (by omega), if_neg (by omega)]
  simp only [Option.bind_some, Option.isNone_none, if_true]
  rw [if_neg (by omega), w64 (n := q * 1048576) (by omega) (by omega), w64 (n := q * 1048576 + p) (by omega) (by omega), w64 (n := q * 1048576 + p - 1) (by omega) (by omega), tdiv_pos (by omega), w64 (by omega) (by omega)]

theorem shr_sum {I : Items} (hI : Fine I) : ∀ i, i ≤ I.m → 0 ≤ sm (shr I) i ∧ sm (shr I) i ≤ i * 1099512676351 := by
  intro i
  induction i with
  | zero => intro _; simp [sm]
  | succ i ih =>
    intro h
    have ih := ih (by omega)
    have := shr_ok hI (j := i) (by omega)
    simp only [sm]; omega

theorem load_loop (l : List S43) (hv : vLL l = 0) : ∀ (d i : Nat), i + d = l.length → Evt (fun k => edf_Load.l0 k (sm (shr (It l)) i) (l.map cv) (l.length : Int) i) (sm (shr (It l)) l.length, none) := by
  have hI := It_fine hv
  have hm : l.length ≤ 64 := hI.1
  intro d
  induction d with
  | zero =>
    intro i hi
    obtain rfl : i = l.length := by omega
    refine Evt.succ ?_
    simp only [edf_Load.l0]
    exact Evt.ifn (by omega) (Evt.pure fun _ => rfl)
  | succ d ih =>
    intro i hi
    have hil : i < l.length := by omega
    have him : i < (It l).m := hil
    have hIi := hI.2 i him
    have hx : rd_T55 (l.map cv) (i : Int) = ⟨(It l).q i, (It l).p i, (It l).s i⟩ := by rw [rd55 hil]; rfl
    have hs := shr_ok hI him
    have hb := shr_sum hI i (by omega)
    have nx := ih (i + 1) (by omega)
    simp only [sm] at nx
    refine Evt.succ ?_
    simp only [edf_Load.l0]
    rw [hx]
    simp only []
    refine Evt.ifp (by omega) (Evt.ifp (by omega) (Evt.ifp (by simp; omega) (Evt.call (share_eq (by omega)) ?_)))
    rw [w1 i (by omega)]
    dsimp only
    rw [w64 (n := sm (shr (It l)) i + ((It l).q i * 1048576 + (It l).p i - 1) / (It l).p i) (by unfold shr at hs; omega) (by unfold shr at hs hb; unfold shr; omega)]
    exact nx

theorem Load_evt (l : List S43) (hl : l.length ≤ 140737488351232) : ∃ v e, Evt (fun k => edf_Load.f k (l.map cv)) (v, opt e) ∧ ((vLL l ≠ 0 ∧ v = 0 ∧ e = vLL l) ∨ (vLL l = 0 ∧ e = 0 ∧ v = sm (shr (It l)) l.length)) := by
  have hV := edf_Valid_evt l hl
  unfold edf_Load.f
  by_cases hv : vLL l = 0
  · rw [hv, opt_zero] at hV
    refine ⟨_, 0, Evt.bind hV (Evt.ifp rfl ?_), .inr ⟨hv, rfl, rfl⟩⟩
    rw [List.length_map]
    exact load_loop l hv l.length 0 (by omega)
  · rw [opt_pos hv] at hV
    refine ⟨0, vLL l, Evt.bind hV (Evt.ifn (by simp) (Evt.pure fun _ => by rw [opt_pos hv]; rfl)), .inl ⟨hv, rfl, rfl⟩⟩

/-- an item that had its budget at its first period's end lags by nothing -/
theorem lag_zero {q p s : Int} (h : 1 ≤ q ∧ q ≤ p ∧ p ≤ 1048576) (h0 : 0 ≤ s) (h1 : s + p ≤ 1073741824) : Evt (fun k => edf_Lag.f k q p s q (s + p)) (0, none) := by
  unfold edf_Lag.f
  have t1 : Tm q := ⟨by omega, by omega⟩
  have t2 : Tm (s + p) := ⟨by omega, by omega⟩
  have e0 : 0 ≤ q * p := Int.mul_nonneg (by omega) (by omega)
  have e1 : q * p ≤ 1048576 * 1048576 := Int.mul_le_mul (by omega) (by omega) (by omega) (by omega)
  refine Evt.call (is_eq q) (Evt.ifp (decide_eq_true t1) (Evt.call (is_eq _) (Evt.succ ?_)))
  simp only [edf_Lag.j0]
  refine Evt.ifn (by simp [t2]) (Evt.call (item_valid q p s) ?_)
  rw [vI_ok h ⟨h0, by omega⟩, opt_zero]
  refine Evt.ifp rfl (Evt.pure fun _ => ?_)
  rw [w64 (n := s + p - s) (by omega) (by omega), mx_max, show max (s + p - s) 0 = p by omega, w64 (n := q * p) (by omega) (by omega), w64 (by omega) (by omega), Int.sub_self]

theorem ll_end : Evt (fun k => (tithelaw10_works.f k).bind fun t => some t) true := Evt.bind works_evt (Evt.pure fun _ => rfl)

section
variable (l : List S43) (hv : vLL l = 0) (n : Nat) (hn : n < 500) (pl : List Int) (hlen : pl.length = n)
  (hex : ∀ j, j < (It l).m → ∀ k : Nat, (It l).s j + k * (It l).p j + (It l).p j ≤ n → cn (rd pl) j ((It l).s j + k * (It l).p j) ((It l).s j + k * (It l).p j + (It l).p j) = (It l).q j)
include hv hn hlen hex

theorem ll_loops : ∀ (d i : Nat), i + d = l.length → Evt (fun k => tithelaw10_EdfLiuLayland.l0 k l n pl i) true := by
  have hI := It_fine hv
  have hm : l.length ≤ 64 := hI.1
  intro d
  induction d with
  | zero =>
    intro i hi
    obtain rfl : i = l.length := by omega
    refine Evt.succ ?_
    simp only [tithelaw10_EdfLiuLayland.l0]
    exact Evt.ifn (by omega) ll_end
  | succ d ih =>
    intro i hi
    have hil : i < l.length := by omega
    have him : i < (It l).m := hil
    have hIi := hI.2 i him
    have hx : rd_T43 l (i : Int) = ⟨(It l).q i, (It l).p i, (It l).s i⟩ := rfl
    have nx := ih (i + 1) (by omega)
    have hexi := hex i him
    have periods : ∀ (f kk : Nat) (a : Int), a = (It l).s i + kk * (It l).p i → 0 ≤ a → a ≤ 1073741824 + 500 → (n : Int) < a + f →
        Evt (fun k => tithelaw10_EdfLiuLayland.l1 k l n pl i a ((It l).q i) ((It l).p i) ((It l).s i)) true := by
      intro f
      induction f with
      | zero =>
        intro kk a _ ha0 ha1 hf
        refine Evt.succ ?_
        simp only [tithelaw10_EdfLiuLayland.l1]
        rw [w64 (n := a + (It l).p i) (by omega) (by omega), w1 i (by omega)]
        exact Evt.ifn (by omega) nx
      | succ f ihf =>
        intro kk a hak ha0 ha1 hf
        by_cases hin : a + (It l).p i ≤ n
        · have hq := hexi kk (by rw [← hak]; exact hin)
          rw [← hak] at hq
          have nxa := ihf (kk + 1) (a + (It l).p i) (by rw [hak, Int.natCast_add, Int.add_mul]; omega) (by omega) (by omega) (by omega)
          have hsa : (It l).s i ≤ a := by
            rw [hak]; have : 0 ≤ (kk : Int) * (It l).p i := Int.mul_nonneg (by omega) (by omega)
            omega
          clear hak
          obtain ⟨a', rfl⟩ : ∃ a' : Nat, a = a' := ⟨a.toNat, by omega⟩
          obtain ⟨pp, hpp⟩ : ∃ pp : Nat, (It l).p i = pp := ⟨((It l).p i).toNat, by omega⟩
          have count : ∀ (d u : Nat), u + d = pp → Evt (fun k => tithelaw10_EdfLiuLayland.l2 k l n pl i a' (cn (rd pl) i a' ((a' : Int) + u)) ((a' + u : Nat) : Int) ((It l).q i) ((It l).p i) ((It l).s i)) true := by
            intro d
            induction d with
            | zero =>
              intro u hu
              obtain rfl : u = pp := by omega
              refine Evt.succ ?_
              simp only [tithelaw10_EdfLiuLayland.l2]
              rw [← hpp, hq, w64 (n := (a' : Int) + (It l).p i) (by omega) (by omega), w64 (n := (It l).s i + (It l).p i) (by omega) (by omega)]
              refine Evt.ifn (by omega) (Evt.ifp rfl (Evt.bind (lag_zero (by omega) (by omega) (by omega)) (Evt.ifp rfl (Evt.ifp rfl nxa))))
            | succ d ihd =>
              intro u hu
              have hb0 := cn_nonneg (rd pl) i a' ((a' : Int) + u)
              have hb1 : cn (rd pl) i a' ((a' : Int) + u) ≤ (It l).q i := by rw [← hq]; exact cn_mono _ _ (by omega) (by omega)
              have nxu := ihd (u + 1) (by omega)
              rw [show (a' : Int) + ((u + 1 : Nat) : Int) = (a' : Int) + u + 1 by omega, cn_succ _ _ (by omega)] at nxu
              have hcast : ((a' + u : Nat) : Int) = (a' : Int) + u := by omega
              refine Evt.succ ?_
              simp only [tithelaw10_EdfLiuLayland.l2]
              rw [w64 (n := (a' : Int) + (It l).p i) (by omega) (by omega), w1 (a' + u) (by omega), w64 (n := cn (rd pl) i a' ((a' : Int) + u) + 1) (by omega) (by omega)]
              refine Evt.ifp (by omega) (Evt.ifp (by omega) (Evt.ifp (by omega) ?_))
              rw [← hcast] at nxu
              by_cases he : rd pl ((a' + u : Nat) : Int) = (i : Int)
              · rw [if_pos he, hcast] at nxu
                exact Evt.ifp he nxu
              · rw [if_neg he, Int.add_zero, hcast] at nxu
                exact Evt.ifn he nxu
          have := count pp 0 (by omega)
          rw [show ((a' : Int) + ((0 : Nat) : Int)) = (a' : Int) by omega, cn_self] at this
          refine Evt.succ ?_
          simp only [tithelaw10_EdfLiuLayland.l1]
          rw [w64 (n := (a' : Int) + (It l).p i) (by omega) (by omega)]
          exact Evt.ifp hin this
        · refine Evt.succ ?_
          simp only [tithelaw10_EdfLiuLayland.l1]
          rw [w64 (n := a + (It l).p i) (by omega) (by omega), w1 i (by omega)]
          exact Evt.ifn hin nx
    have := periods (n + 1) 0 ((It l).s i) (by simp) (by omega) (by omega) (by omega)
    refine Evt.succ ?_
    simp only [tithelaw10_EdfLiuLayland.l0]
    rw [hx]
    simp only []
    exact Evt.ifp (by omega) (Evt.ifp (by omega) this)
end

theorem EdfLiuLayland : tithelaw10_EdfLiuLayland.Pure := by
  intro l n0 _ hl _ _
  refine Evt.ex ?_
  have hll : l.length ≤ 140737488351232 := by omega
  obtain ⟨n1, n2⟩ := pmod (a := n0) (c := 500) (by omega) (by omega)
  unfold tithelaw10_EdfLiuLayland.f
  generalize Int.tmod (wrap64 (Int.tmod n0 500 + 500)) 500 = n at n1 n2 ⊢
  obtain ⟨n, rfl⟩ : ∃ n' : Nat, n = n' := ⟨n.toNat, by omega⟩
  obtain ⟨v, e, hv1, hve⟩ := Load_evt l hll
  obtain ⟨p, f, hp, hpe⟩ := Plan_evt l hll n
  refine Evt.bind (items_evt l hl) (Evt.bind hv1 (Evt.bind (items_evt l hl) (Evt.bind hp ?_)))
  by_cases hv : vLL l = 0
  · rcases hpe with ⟨h, _, _⟩ | ⟨_, h, _⟩ | ⟨_, _, rfl, hg⟩
    · omega
    · exact absurd hv h
    rcases hve with ⟨h, _⟩ | ⟨_, rfl, rfl⟩
    · exact absurd hv h
    have hI := It_fine hv
    have hm : l.length ≤ 64 := hI.1
    rw [show ((n : Int)).toNat = n by omega] at hg
    have hlen := hg.1
    refine Evt.ifp rfl (Evt.ifp rfl (Evt.succ ?_))
    simp only [tithelaw10_EdfLiuLayland.j0]
    refine Evt.ifn (by simp) ?_
    by_cases hld : sm (shr (It l)) l.length > 1048576
    · exact Evt.ifp hld ll_end
    · refine Evt.ifn hld (Evt.bind (items_evt l hl) ?_)
      have hall : AllHad (It l) (rd p) n := greedy_all hI hg (fun a b _ hab _ => Items.shares hI.ok (U := 1048576) (by omega) (shr (It l)) (fun j hj => (shr_ok hI hj).2.2) (Int.not_lt.1 hld) hab)
      obtain ⟨o2, e2, ho2, hoe2⟩ := Missed_evt l hll p
      rcases hoe2 with ⟨h | h, _, _⟩ | ⟨_, h, _⟩ | ⟨_, _, rfl, rfl⟩
      · omega
      · exact absurd h (greedy_not_bad hg)
      · exact absurd hv h
      have hnone := (miss_none hv p).2 (by rw [hlen]; exact hall)
      refine Evt.bind ho2 (Evt.ifp rfl (Evt.ifp (by simp) (Evt.bind (some_evt _ (by simpa using hll)) (Evt.ifn ?_ (Evt.succ ?_)))))
      · dsimp only
        rw [decide_eq_false hnone]; simp
      · simp only [tithelaw10_EdfLiuLayland.j1]
        refine Evt.ifn (by simp [hlen]) ?_
        refine ll_loops l hv n (by omega) p hlen (fun j hj k hk => ?_) l.length 0 (by omega)
        have h1 := hall j hj k hk
        have h2 := Items.period_le' hI.ok (greedy_rule hg) hj (k := k) (by omega) hk
        omega
  · rcases hpe with ⟨h, _, _⟩ | ⟨_, _, rfl, rfl⟩ | ⟨_, h, _⟩
    · omega
    · rcases hve with ⟨_, rfl, rfl⟩ | ⟨h, _⟩
      · have hb : (opt (vLL l)).isNone = false := by rw [opt_pos hv]; rfl
        refine Evt.ifn (by simp [hb]) (Evt.succ ?_)
        simp only [tithelaw10_EdfLiuLayland.j0]
        exact Evt.ifp (by trivial) (Evt.ifn (by simp) (Evt.ifn (by simp [hb]) (Evt.ifp (by trivial) ll_end)))
      · exact absurd h hv
    · exact absurd h hv
end Go.Proofs.YthhaikkicabplaaR.Pure
