/- A book of claims beside the reference's list of claims: every act answers the same. No conditions. -/
import Derived.Test.YtaoicceakgipgaaDoorAdmBase
namespace Go.Proofs.YtaoicceakgipgaaDoor.Pure
open Go Go.RowKit Tithe Go.Proofs.YtaoicceakgipgaaDoor.T Go.Proofs.YtaoicceakgipgaaDoorW.PrintWords Go.Proofs.YtaoicceakgipgaaDoorW.PrintLast Go.Proofs.YtaoicceakgipgaaDoorW.PrintMore
set_option linter.unusedVariables false
set_option linter.unusedSimpArgs false
def bk (B : List S28) : List S51 := (bkL B).map cv
/-- each slot's claim is the slot's own, and may be -/
def OkB (B : List S28) : Prop := B.length = 64 ∧ ∀ i : Nat, i < 64 → clz (B.getD i z28) = false → (B.getD i z28).f0 = (i : Int) ∧ okc (cv (B.getD i z28))
def Inv (B : List S28) (l : List S51) : Prop := OkB B ∧ l = bk B ∧ tot l ≤ 1048576
theorem bkL_append (a b : List S28) : bkL (a ++ b) = bkL a ++ bkL b := by unfold bkL; exact List.filter_append _ _
theorem split_at {B : List S28} {s : Nat} (h : s < B.length) : B = B.take s ++ B.getD s z28 :: B.drop (s + 1) := by
  have e : B.getD s z28 = B[s] := by simp [List.getD, List.getElem?_eq_getElem h]
  rw [e, ← List.drop_eq_getElem_cons h, List.take_append_drop]
theorem bkL_one (c : S28) (r : List S28) : bkL (c :: r) = (if clz c = true then [] else [c]) ++ bkL r := by
  unfold bkL
  rw [List.filter_cons]
  cases clz c <;> simp
theorem bk_split {B : List S28} {s : Nat} (h : s < B.length) : bk B = bk (B.take s) ++ ((if clz (B.getD s z28) = true then [] else [cv (B.getD s z28)]) ++ bk (B.drop (s + 1))) := by
  have e := split_at h
  unfold bk
  rw [congrArg bkL e, bkL_append, bkL_one]
  cases clz (B.getD s z28) <;> simp
theorem in_take {B : List S28} (hB : OkB B) {s : Nat} {x : S51} (h : x ∈ bk (B.take s)) : x.f0 < (s : Int) ∧ 0 ≤ x.f0 ∧ okc x := by
  unfold bk bkL at h
  obtain ⟨c, hc, rfl⟩ := List.mem_map.1 h
  obtain ⟨hm, hz⟩ := List.mem_filter.1 hc
  obtain ⟨i, hi, rfl⟩ := List.mem_iff_getElem.1 hm
  rw [List.length_take] at hi
  have e : (B.take s)[i] = B.getD i z28 := by
    rw [List.getElem_take]; simp [List.getD, List.getElem?_eq_getElem (show i < B.length by omega)]
  rw [e] at hz ⊢
  have := hB.2 i (by rw [← hB.1]; omega) (by simpa using hz)
  refine ⟨?_, ?_, this.2⟩
  · show (B.getD i z28).f0 < _; rw [this.1]; omega
  · show 0 ≤ (B.getD i z28).f0; rw [this.1]; omega
theorem in_drop {B : List S28} (hB : OkB B) {s : Nat} {x : S51} (h : x ∈ bk (B.drop (s + 1))) : (s : Int) < x.f0 ∧ x.f0 < 64 ∧ okc x := by
  unfold bk bkL at h
  obtain ⟨c, hc, rfl⟩ := List.mem_map.1 h
  obtain ⟨hm, hz⟩ := List.mem_filter.1 hc
  obtain ⟨i, hi, rfl⟩ := List.mem_iff_getElem.1 hm
  rw [List.length_drop] at hi
  have e : (B.drop (s + 1))[i] = B.getD (s + 1 + i) z28 := by
    rw [List.getElem_drop]; simp [List.getD, List.getElem?_eq_getElem (show s + 1 + i < B.length by omega)]
  rw [e] at hz ⊢
  have h64 := hB.1
  have := hB.2 (s + 1 + i) (by omega) (by simpa using hz)
  refine ⟨?_, ?_, this.2⟩
  · show _ < (B.getD (s + 1 + i) z28).f0; rw [this.1]; omega
  · show (B.getD (s + 1 + i) z28).f0 < 64; rw [this.1]; omega
theorem in_bk {B : List S28} (hB : OkB B) {x : S51} (h : x ∈ bk B) : 0 ≤ x.f0 ∧ x.f0 < 64 ∧ okc x := by
  have e : bk (B.take 64) = bk B := by rw [List.take_of_length_le (by rw [hB.1]; exact Nat.le_refl _)]
  rw [← e] at h
  have := in_take hB h
  exact ⟨this.2.1, this.1, this.2.2⟩
theorem bk_len {B : List S28} (hB : OkB B) : (bk B).length ≤ 64 := by
  unfold bk bkL; rw [List.length_map, ← hB.1]; exact List.length_filter_le _ _
/-- a book around one slot -/
theorem slot_split {B : List S28} (hB : OkB B) {s : Int} (h0 : 0 ≤ s) (h1 : s < 64) : ∃ L1 L2 : List S51,
    (∀ x ∈ L1, x.f0 < s ∧ okc x) ∧ (∀ x ∈ L2, s < x.f0 ∧ okc x) ∧ L1.length + L2.length ≤ 200 ∧
    bk B = L1 ++ ((if clz (bkGet B s) = true then [] else [cv (bkGet B s)]) ++ L2) ∧
    ∀ c, bk (bkSet B s c) = L1 ++ ((if clz c = true then [] else [cv c]) ++ L2) ∧ ((clz c = true ∨ (c.f0 = s ∧ okc (cv c))) → OkB (bkSet B s c)) := by
  have hl : s.toNat < B.length := by rw [hB.1]; omega
  have hs : (s.toNat : Int) = s := by omega
  refine ⟨bk (B.take s.toNat), bk (B.drop (s.toNat + 1)), ?_, ?_, ?_, bk_split hl, ?_⟩
  · intro x hx
    have := in_take hB hx
    rw [hs] at this
    exact ⟨this.1, this.2.2⟩
  · intro x hx
    have := in_drop hB hx
    rw [hs] at this
    exact ⟨this.1, this.2.2⟩
  · have a : (bk (B.take s.toNat)).length ≤ 64 := by
      unfold bk bkL; rw [List.length_map]
      exact Nat.le_trans (List.length_filter_le _ _) (by rw [List.length_take, hB.1]; omega)
    have b : (bk (B.drop (s.toNat + 1))).length ≤ 64 := by
      unfold bk bkL; rw [List.length_map]
      exact Nat.le_trans (List.length_filter_le _ _) (by rw [List.length_drop, hB.1]; omega)
    omega
  · intro c
    have hl2 : s.toNat < (bkSet B s c).length := by unfold bkSet; rw [List.length_set]; exact hl
    have e := bk_split hl2
    have g : (bkSet B s c).getD s.toNat z28 = c := bkGet_set hB.1 h0 h1 c
    have t : (bkSet B s c).take s.toNat = B.take s.toNat := by unfold bkSet; rw [List.take_set_of_le (by omega)]
    have d : (bkSet B s c).drop (s.toNat + 1) = B.drop (s.toNat + 1) := by unfold bkSet; rw [List.drop_set_of_lt (by omega)]
    rw [g, t, d] at e
    refine ⟨e, fun hc => ⟨by unfold bkSet; rw [List.length_set]; exact hB.1, fun i hi hz => ?_⟩⟩
    by_cases hi2 : i = s.toNat
    · subst hi2
      rw [g] at hz ⊢
      rcases hc with hc | hc
      · rw [hc] at hz; cases hz
      · exact ⟨by rw [hs]; exact hc.1, hc.2⟩
    · have e2 : (bkSet B s c).getD i z28 = B.getD i z28 := by
        unfold bkSet; simp [List.getD, List.getElem?_set_ne (Ne.symm hi2)]
      rw [e2] at hz ⊢
      exact hB.2 i hi hz
theorem bkSumOf_eq : ∀ (l : List S28) (n : Int), (∀ c ∈ l, okc (cv c)) → 0 ≤ n → n + l.length * 1048576 ≤ 1099511627776 → bkSumOf n l = n + tot (l.map cv)
  | [], n, _, _, _ => by simp [bkSumOf, tot]
  | c :: r, n, h, h0, h1 => by
    have b := cnt_b (h c (List.mem_cons_self ..))
    have e : cnt (cv c) = mx c.f1 c.f2 := rfl
    rw [List.length_cons] at h1
    have hw : wrap64 (n + mx c.f1 c.f2) = n + cnt (cv c) := by rw [← e]; exact w64 (by omega) (by omega)
    have ih := bkSumOf_eq r (n + cnt (cv c)) (fun x hx => h x (List.mem_cons_of_mem _ hx)) (by omega) (by omega)
    show bkSumOf (wrap64 (n + mx c.f1 c.f2)) r = _
    rw [hw, ih, List.map_cons, tot_cons]; omega
theorem bkSum_eq {B : List S28} (hB : OkB B) : bkSum B = tot (bk B) := by
  have hl := bk_len hB
  unfold bkSum
  rw [bkSumOf_eq (bkL B) 0 ?_ (Int.le_refl _) ?_, Int.zero_add]
  · rfl
  · intro c hc
    exact (in_bk hB (List.mem_map_of_mem hc)).2.2
  · unfold bk at hl; rw [List.length_map] at hl; omega
theorem at_false {B : List S28} {s : Int} (h : ¬ (0 ≤ s ∧ s < 64)) : bkAt B s = false := by
  unfold bkAt
  by_cases h0 : 0 ≤ s
  · rw [decide_eq_false (show ¬ s < 64 from fun h1 => h ⟨h0, h1⟩)]; simp
  · rw [decide_eq_false h0]; simp
theorem at_eq {B : List S28} {s : Int} (h0 : 0 ≤ s) (h1 : s < 64) : bkAt B s = !clz (bkGet B s) := by
  unfold bkAt; rw [decide_eq_true h0, decide_eq_true h1]; simp
/-- where there is no claim: the reference finds none -/
theorem find_none {B : List S28} (hB : OkB B) {s : Int} (h : bkAt B s = false) : Evt (fun k => titheref08_Find.f k (bk B) s) (-1) := by
  have hl := bk_len hB
  refine Find_miss (by omega) fun x hx => ?_
  by_cases hr : 0 ≤ s ∧ s < 64
  · rw [at_eq hr.1 hr.2] at h
    have hz : clz (bkGet B s) = true := by simpa using h
    obtain ⟨L1, L2, a1, a2, _, e, _⟩ := slot_split hB hr.1 hr.2
    rw [e, if_pos hz, List.nil_append] at hx
    rcases List.mem_append.1 hx with h1 | h1
    · have := (a1 x h1).1; omega
    · have := (a2 x h1).1; omega
  · have := in_bk hB hx
    intro e; exact hr ⟨by omega, by omega⟩
/-- where there is one -/
theorem at_claim {B : List S28} (hB : OkB B) {s : Int} (h : bkAt B s = true) : ∃ L1 L2 : List S51,
    (∀ x ∈ L1, x.f0 < s ∧ okc x) ∧ (∀ x ∈ L2, s < x.f0 ∧ okc x) ∧ L1.length + L2.length ≤ 200 ∧ bk B = L1 ++ cv (bkGet B s) :: L2 ∧ (bkGet B s).f0 = s ∧ okc (cv (bkGet B s)) ∧
    Evt (fun k => titheref08_Find.f k (bk B) s) (L1.length : Int) ∧
    ∀ c, bk (bkSet B s c) = L1 ++ ((if clz c = true then [] else [cv c]) ++ L2) ∧ ((clz c = true ∨ (c.f0 = s ∧ okc (cv c))) → OkB (bkSet B s c)) := by
  obtain ⟨h0, h1⟩ := at_in h
  have hz : clz (bkGet B s) = false := by
    rw [at_eq h0 h1] at h
    simpa using h
  obtain ⟨L1, L2, a1, a2, a3, e, a4⟩ := slot_split hB h0 h1
  rw [hz] at e
  simp only [Bool.false_eq_true, if_false, List.singleton_append] at e
  have hok := hB.2 s.toNat (by omega) hz
  have hs : (bkGet B s).f0 = s := by
    have := hok.1
    unfold bkGet; omega
  refine ⟨L1, L2, a1, a2, a3, e, hs, hok.2, ?_, a4⟩
  rw [e]
  exact Find_hit (show (cv (bkGet B s)).f0 = s from hs) (by rw [List.length_append, List.length_cons]; omega) (fun x hx => by have := (a1 x hx).1; omega)
theorem okc_nz {c : S28} (h : okc (cv c)) : clz c = false := by
  have : c.f1 ≠ 0 := by have := h.1; show (cv c).f1 ≠ 0; omega
  unfold clz
  rw [show (c.f1 == 0) = false from beq_eq_false_iff_ne.2 this]; simp
theorem set_here (L1 L2 : List S51) (c d : S51) : (L1 ++ c :: L2).set ((L1.length : Int)).toNat d = L1 ++ d :: L2 := by
  rw [Int.toNat_natCast, List.set_append_right _ _ (Nat.le_refl _), Nat.sub_self]; rfl
theorem nume (e : Option Int) : tithelaw08_num.f e = some (match e with | none => 0 | some x => x) := by cases e <;> rfl
def nu (e : Option Int) : Int := match e with | none => 0 | some x => x
theorem num_nu (e : Option Int) : tithelaw08_num.f e = some (nu e) := by cases e <;> rfl
theorem Add_rel {B : List S28} {l : List S51} (hI : Inv B l) (s n : Int) :
    ∃ l' e B', Evt (fun k => titheref08_Add.f k l s n) (l', nu e) ∧ bkAdd B s n = (e, B') ∧ Inv B' l' := by
  obtain ⟨hB, rfl, ht⟩ := hI
  have hl := bk_len hB
  have hsum := bkSum_eq hB
  have hok : ∀ c ∈ bk B, okc c := fun c hc => (in_bk hB hc).2.2
  have htb := tot_b _ hok
  unfold titheref08_Add.f bkAdd
  by_cases q0 : s < 0
  · rw [if_pos q0]
    refine ⟨_, _, _, Evt.ifp q0 (Evt.succ ?_), rfl, hB, rfl, ht⟩
    simp only [titheref08_Add.j0]
    exact Evt.ifp (by simp) (Evt.pure fun _ => rfl)
  rw [if_neg q0]
  by_cases q1 : s ≥ 64
  · rw [if_pos q1]
    refine ⟨_, _, _, Evt.ifn q0 (Evt.succ ?_), rfl, hB, rfl, ht⟩
    simp only [titheref08_Add.j0]
    exact Evt.ifp (decide_eq_true q1) (Evt.pure fun _ => rfl)
  rw [if_neg q1]
  have start : ∀ {r : List S51 × Int}, Evt (fun k => (titheref08_Find.f k (bk B) s).bind fun t129 => (if t129 ≥ 0 then (some (bk B, 30)) else ((titheref08_share.f n).bind fun t130 => (if t130 = true then ((titheref08_Sum.f k (bk B)).bind fun t131 => (if (wrap64 (t131 + n)) > 1048576 then (some (bk B, 80)) else (titheref08_Add.l0 k (bk B) s n ([] : List (S51)) false 0))) else (some (bk B, 2)))))) r →
      Evt (fun k => if s < 0 then titheref08_Add.j0 k (bk B) s n true else titheref08_Add.j0 k (bk B) s n (decide (s ≥ 64))) r := by
    intro r h
    refine Evt.ifn q0 (Evt.succ ?_)
    simp only [titheref08_Add.j0]
    exact Evt.ifn (by simpa using q1) h
  cases hA : bkAt B s with
  | true =>
    rw [if_pos rfl]
    obtain ⟨L1, L2, _, _, _, _, _, _, hf, _⟩ := at_claim hB hA
    exact ⟨_, _, _, start (Evt.bind hf (Evt.ifp (by omega) (Evt.pure fun _ => rfl))), rfl, hB, rfl, ht⟩
  | false =>
    rw [if_neg (by decide)]
    have hf := find_none hB hA
    cases hs : shareB n with
    | false =>
      rw [if_pos rfl]
      exact ⟨_, _, _, start (Evt.bind hf (Evt.ifn (by omega) (Evt.call share_ok (Evt.ifn (by rw [hs]; decide) (Evt.pure fun _ => rfl))))), rfl, hB, rfl, ht⟩
    | true =>
      rw [if_neg (by decide)]
      obtain ⟨n1, n2⟩ := shareB_t hs
      have hw : wrap64 (tot (bk B) + n) = tot (bk B) + n := w64 (by omega) (by omega)
      rw [hsum, hw]
      by_cases q2 : tot (bk B) + n > 1048576
      · rw [if_pos q2]
        refine ⟨_, _, _, start (Evt.bind hf (Evt.ifn (by omega) (Evt.call share_ok (Evt.ifp (by rw [hs]) (Evt.bind (Sum_evt (by omega) hok) ?_))))), rfl, hB, rfl, ht⟩
        rw [hw]
        exact Evt.ifp q2 (Evt.pure fun _ => rfl)
      · rw [if_neg q2]
        obtain ⟨L1, L2, a1, a2, a3, e, a4⟩ := slot_split hB (s := s) (by omega) (by omega)
        have hz : clz (bkGet B s) = true := by
          rw [at_eq (by omega) (by omega)] at hA
          simpa using hA
        rw [hz] at e
        simp only [if_true, List.nil_append] at e
        obtain ⟨e2, o2⟩ := a4 ⟨s, n, 0, false⟩
        have okn : okc (cv ⟨s, n, 0, false⟩) := ⟨n1, n2, Int.le_refl 0, show (0 : Int) ≤ 1048576 by decide⟩
        rw [okc_nz okn] at e2
        simp only [Bool.false_eq_true, if_false, List.singleton_append] at e2
        have hh := Add_head (n := n) (fun x hx => (a2 x hx).1) L1 [] (by simp; omega) (fun x hx => (a1 x hx).1)
        simp only [List.nil_append] at hh
        refine ⟨L1 ++ ⟨s, n, 0, false⟩ :: L2, none, _, start (Evt.bind hf (Evt.ifn (by omega) (Evt.call share_ok (Evt.ifp (by rw [hs]) (Evt.bind (Sum_evt (by omega) hok) ?_))))), rfl, o2 (.inr ⟨rfl, okn⟩), e2.symm, ?_⟩
        · rw [hw]
          refine Evt.ifn q2 ?_
          rw [e]
          exact hh
        · rw [e, tot_append] at q2
          rw [tot_append, tot_cons]
          have : cnt (⟨s, n, 0, false⟩ : S51) = n := by show mx n 0 = n; unfold mx; rw [if_neg (by omega)]
          omega
theorem Resize_rel {B : List S28} {l : List S51} (hI : Inv B l) (s n : Int) :
    ∃ l' e B', Evt (fun k => titheref08_Resize.f k l s n) (l', nu e) ∧ bkResize B s n = (e, B') ∧ Inv B' l' := by
  obtain ⟨hB, rfl, ht⟩ := hI
  have hl := bk_len hB
  have hsum := bkSum_eq hB
  have hok : ∀ c ∈ bk B, okc c := fun c hc => (in_bk hB hc).2.2
  have htb := tot_b _ hok
  unfold titheref08_Resize.f bkResize
  cases hA : bkAt B s with
  | false =>
    rw [if_pos rfl]
    exact ⟨_, _, _, Evt.bind (find_none hB hA) (Evt.ifp (by decide) (Evt.pure fun _ => rfl)), rfl, hB, rfl, ht⟩
  | true =>
    rw [if_neg (by decide)]
    obtain ⟨L1, L2, a1, a2, a3, e, hs, hk, hf, a4⟩ := at_claim hB hA
    have hr : rd_T51 (bk B) (L1.length : Int) = cv (bkGet B s) := by rw [e]; exact rd_mid _ _ _
    have hlen : (bk B).length = L1.length + (L2.length + 1) := by rw [e]; simp
    have pre : ∀ {r : List S51 × Int}, Evt (fun k => (if (rd_T51 (bk B) (L1.length : Int)).f3 = true then (some (bk B, 92)) else ((titheref08_share.f n).bind fun t156 => (if t156 = true then ((titheref08_twin.f (bk B)).bind fun t157 => (if (L1.length : Int) < (t157.length : Int) then ((some (t157.set (L1.length : Int).toNat (⟨(rd_T51 t157 (L1.length : Int)).f0, (rd_T51 t157 (L1.length : Int)).f1, n, (rd_T51 t157 (L1.length : Int)).f3⟩ : S51) : List (S51))).bind fun y160 => ((titheref08_Sum.f k y160).bind fun t161 => (if t161 > 1048576 then (some (bk B, 80)) else (some (y160, 0))))) else (none))) else (some (bk B, 2)))))) r →
        Evt (fun k => (titheref08_Find.f k (bk B) s).bind fun t154 => (if t154 < 0 then (some (bk B, 20)) else (if 0 ≤ t154 then (if t154 < ((bk B).length : Int) then (if (rd_T51 (bk B) t154).f3 = true then (some (bk B, 92)) else ((titheref08_share.f n).bind fun t156 => (if t156 = true then ((titheref08_twin.f (bk B)).bind fun t157 => (if t154 < (t157.length : Int) then ((some (t157.set (t154 : Int).toNat (⟨(rd_T51 t157 t154).f0, (rd_T51 t157 t154).f1, n, (rd_T51 t157 t154).f3⟩ : S51) : List (S51))).bind fun y160 => ((titheref08_Sum.f k y160).bind fun t161 => (if t161 > 1048576 then (some (bk B, 80)) else (some (y160, 0))))) else (none))) else (some (bk B, 2))))) else (none)) else (none)))) r := by
      intro r h
      exact Evt.bind hf (Evt.ifn (by omega) (Evt.ifp (by omega) (Evt.ifp (by omega) h)))
    cases hd : (bkGet B s).f3 with
    | true =>
      rw [if_pos rfl]
      exact ⟨_, _, _, pre (Evt.ifp (by rw [hr]; exact hd) (Evt.pure fun _ => rfl)), rfl, hB, rfl, ht⟩
    | false =>
      rw [if_neg (by decide)]
      have hd2 : ¬ (rd_T51 (bk B) (L1.length : Int)).f3 = true := by rw [hr]; show ¬ (bkGet B s).f3 = true; rw [hd]; decide
      cases hsh : shareB n with
      | false =>
        rw [if_pos rfl]
        exact ⟨_, _, _, pre (Evt.ifn hd2 (Evt.call share_ok (Evt.ifn (by rw [hsh]; decide) (Evt.pure fun _ => rfl)))), rfl, hB, rfl, ht⟩
      | true =>
        rw [if_neg (by decide)]
        obtain ⟨n1, n2⟩ := shareB_t hsh
        obtain ⟨e2, o2⟩ := a4 ⟨(bkGet B s).f0, (bkGet B s).f1, n, (bkGet B s).f3⟩
        have okn : okc (cv ⟨(bkGet B s).f0, (bkGet B s).f1, n, (bkGet B s).f3⟩) := ⟨hk.1, hk.2.1, show 0 ≤ n by omega, n2⟩
        rw [okc_nz okn] at e2
        simp only [Bool.false_eq_true, if_false, List.singleton_append] at e2
        have hB2 := o2 (.inr ⟨hs, okn⟩)
        have hst : (bk B).set (L1.length : Int).toNat (⟨(rd_T51 (bk B) (L1.length : Int)).f0, (rd_T51 (bk B) (L1.length : Int)).f1, n, (rd_T51 (bk B) (L1.length : Int)).f3⟩ : S51) = bk (bkSet B s ⟨(bkGet B s).f0, (bkGet B s).f1, n, (bkGet B s).f3⟩) := by
          rw [hr, e2, e]; exact set_here _ _ _ _
        have hc1 : cnt (cv (bkGet B s)) = mx (bkGet B s).f1 (bkGet B s).f2 := rfl
        have hc2 : cnt (cv ⟨(bkGet B s).f0, (bkGet B s).f1, n, (bkGet B s).f3⟩) = mx (bkGet B s).f1 n := rfl
        have b1 := cnt_b hk
        have b2 := cnt_b okn
        have ht2 : tot (bk (bkSet B s ⟨(bkGet B s).f0, (bkGet B s).f1, n, (bkGet B s).f3⟩)) = tot (bk B) - mx (bkGet B s).f1 (bkGet B s).f2 + mx (bkGet B s).f1 n := by
          rw [e2, e, tot_append, tot_append, tot_cons, tot_cons, hc1, hc2]; omega
        have hw : wrap64 (wrap64 (bkSum B - mx (bkGet B s).f1 (bkGet B s).f2) + mx (bkGet B s).f1 n) = tot (bk (bkSet B s ⟨(bkGet B s).f0, (bkGet B s).f1, n, (bkGet B s).f3⟩)) := by
          rw [hsum, ht2, w64 (n := tot (bk B) - mx (bkGet B s).f1 (bkGet B s).f2) (by omega) (by omega), w64 (by omega) (by omega)]
        have hl2 := bk_len hB2
        have sm := Sum_evt (l := bk (bkSet B s ⟨(bkGet B s).f0, (bkGet B s).f1, n, (bkGet B s).f3⟩)) (by omega) (fun c hc => (in_bk hB2 hc).2.2)
        rw [hw]
        have go : ∀ {r : List S51 × Int}, Evt (fun k => (if tot (bk (bkSet B s ⟨(bkGet B s).f0, (bkGet B s).f1, n, (bkGet B s).f3⟩)) > 1048576 then (some (bk B, (80 : Int))) else (some (bk (bkSet B s ⟨(bkGet B s).f0, (bkGet B s).f1, n, (bkGet B s).f3⟩), 0)))) r → Evt (fun k => (if (rd_T51 (bk B) (L1.length : Int)).f3 = true then (some (bk B, 92)) else ((titheref08_share.f n).bind fun t156 => (if t156 = true then ((titheref08_twin.f (bk B)).bind fun t157 => (if (L1.length : Int) < (t157.length : Int) then ((some (t157.set (L1.length : Int).toNat (⟨(rd_T51 t157 (L1.length : Int)).f0, (rd_T51 t157 (L1.length : Int)).f1, n, (rd_T51 t157 (L1.length : Int)).f3⟩ : S51) : List (S51))).bind fun y160 => ((titheref08_Sum.f k y160).bind fun t161 => (if t161 > 1048576 then (some (bk B, 80)) else (some (y160, 0))))) else (none))) else (some (bk B, 2)))))) r := by
          intro r h
          refine Evt.ifn hd2 (Evt.call share_ok (Evt.ifp (by rw [hsh]) (Evt.call (twin_ok (by omega)) (Evt.ifp (by omega) (Evt.call rfl ?_)))))
          rw [hst]
          exact Evt.bind sm h
        by_cases q2 : tot (bk (bkSet B s ⟨(bkGet B s).f0, (bkGet B s).f1, n, (bkGet B s).f3⟩)) > 1048576
        · rw [hd] at q2 ⊢
          rw [if_pos q2]
          exact ⟨_, _, _, pre (go (Evt.ifp (by rw [hd]; exact q2) (Evt.pure fun _ => rfl))), rfl, hB, rfl, ht⟩
        · have q3 := q2
          rw [hd] at q2 ⊢
          rw [if_neg q2]
          refine ⟨_, none, _, pre (go (Evt.ifn q3 (Evt.pure fun _ => rfl))), rfl, ?_, ?_, by omega⟩
          · rw [hd] at hB2; exact hB2
          · rw [hd]
theorem Die_rel {B : List S28} {l : List S51} (hI : Inv B l) (s : Int) :
    ∃ l' e B', Evt (fun k => titheref08_Die.f k l s) (l', nu e) ∧ bkDie B s = (e, B') ∧ Inv B' l' := by
  obtain ⟨hB, rfl, ht⟩ := hI
  have hl := bk_len hB
  unfold titheref08_Die.f bkDie
  cases hA : bkAt B s with
  | false =>
    rw [if_pos rfl]
    exact ⟨_, _, _, Evt.bind (find_none hB hA) (Evt.ifp (by decide) (Evt.pure fun _ => rfl)), rfl, hB, rfl, ht⟩
  | true =>
    rw [if_neg (by decide)]
    obtain ⟨L1, L2, a1, a2, a3, e, hs, hk, hf, a4⟩ := at_claim hB hA
    have hr : rd_T51 (bk B) (L1.length : Int) = cv (bkGet B s) := by rw [e]; exact rd_mid _ _ _
    have hlen : (bk B).length = L1.length + (L2.length + 1) := by rw [e]; simp
    cases hd : (bkGet B s).f3 with
    | true =>
      rw [if_pos rfl]
      exact ⟨_, _, _, Evt.bind hf (Evt.ifn (by omega) (Evt.ifp (by omega) (Evt.ifp (by omega) (Evt.ifp (by rw [hr]; exact hd) (Evt.pure fun _ => rfl))))), rfl, hB, rfl, ht⟩
    | false =>
      rw [if_neg (by decide)]
      have hd2 : ¬ (rd_T51 (bk B) (L1.length : Int)).f3 = true := by rw [hr]; show ¬ (bkGet B s).f3 = true; rw [hd]; decide
      obtain ⟨e2, o2⟩ := a4 ⟨(bkGet B s).f0, (bkGet B s).f1, (bkGet B s).f2, true⟩
      have okn : okc (cv ⟨(bkGet B s).f0, (bkGet B s).f1, (bkGet B s).f2, true⟩) := hk
      rw [okc_nz okn] at e2
      simp only [Bool.false_eq_true, if_false, List.singleton_append] at e2
      have hst : (bk B).set (L1.length : Int).toNat (⟨(rd_T51 (bk B) (L1.length : Int)).f0, (rd_T51 (bk B) (L1.length : Int)).f1, (rd_T51 (bk B) (L1.length : Int)).f2, true⟩ : S51) = bk (bkSet B s ⟨(bkGet B s).f0, (bkGet B s).f1, (bkGet B s).f2, true⟩) := by
        rw [hr, e2, e]; exact set_here _ _ _ _
      refine ⟨bk (bkSet B s ⟨(bkGet B s).f0, (bkGet B s).f1, (bkGet B s).f2, true⟩), none, _, Evt.bind hf (Evt.ifn (by omega) (Evt.ifp (by omega) (Evt.ifp (by omega) (Evt.ifn hd2 (Evt.call (twin_ok (by omega)) (Evt.ifp (by omega) (Evt.pure fun _ => ?_))))))), rfl, o2 (.inr ⟨hs, okn⟩), rfl, ?_⟩
      · rw [hst]; rfl
      · rw [e, tot_append, tot_cons] at ht
        rw [e2, tot_append, tot_cons]
        exact ht
theorem Cross_rel {B : List S28} {l : List S51} (hI : Inv B l) (s : Int) :
    ∃ l' x e B', Evt (fun k => titheref08_Cross.f k l s) (l', x, nu e) ∧ bkCross B s = (x, e, B') ∧ Inv B' l' := by
  obtain ⟨hB, rfl, ht⟩ := hI
  have hl := bk_len hB
  unfold titheref08_Cross.f bkCross
  cases hA : bkAt B s with
  | false =>
    rw [if_pos rfl]
    exact ⟨_, _, _, _, Evt.bind (find_none hB hA) (Evt.ifp (by decide) (Evt.pure fun _ => rfl)), rfl, hB, rfl, ht⟩
  | true =>
    rw [if_neg (by decide)]
    obtain ⟨L1, L2, a1, a2, a3, e, hs, hk, hf, a4⟩ := at_claim hB hA
    have hr : rd_T51 (bk B) (L1.length : Int) = cv (bkGet B s) := by rw [e]; exact rd_mid _ _ _
    have hlen : (bk B).length = L1.length + (L2.length + 1) := by rw [e]; simp
    have hok : ∀ c ∈ bk B, okc c := fun c hc => (in_bk hB hc).2.2
    rw [e, tot_append, tot_cons] at ht
    have b1 := cnt_b hk
    cases hd : (bkGet B s).f3 with
    | true =>
      rw [if_pos rfl]
      obtain ⟨e2, o2⟩ := a4 z28
      have hz : clz z28 = true := rfl
      rw [hz] at e2
      simp only [if_true, List.nil_append] at e2
      have hw : wrap64 ((L1.length : Int) + 1) = ((L1.length + 1 : Nat) : Int) := w1 _ (by omega)
      have ht1 : (bk B).take (L1.length : Int).toNat = L1 := by rw [e, Int.toNat_natCast, List.take_left' rfl]
      have ht2 : (bk B).drop (wrap64 ((L1.length : Int) + 1)).toNat = L2 := by rw [e, hw, Int.toNat_natCast, as_mid, List.drop_left' (by simp)]
      refine ⟨L1 ++ L2, 2, none, _, Evt.bind hf (Evt.ifn (by omega) (Evt.call (twin_ok (by omega)) (Evt.ifp (by omega) (Evt.ifp (by omega) (Evt.ifp (by rw [hr]; exact hd) (Evt.ifp (by omega) (Evt.call rfl (Evt.ifp (by omega) (Evt.ifp (by omega) (Evt.call rfl ?_)))))))))), rfl, o2 (.inl hz), e2.symm, ?_⟩
      · rw [ht1, ht2]
        exact Evt.ifp (by omega) (Evt.pure fun _ => rfl)
      · rw [tot_append]; omega
    | false =>
      rw [if_neg (by decide)]
      have hd2 : ¬ (rd_T51 (bk B) (L1.length : Int)).f3 = true := by rw [hr]; show ¬ (bkGet B s).f3 = true; rw [hd]; decide
      by_cases q : (bkGet B s).f2 = 0
      · rw [if_pos q]
        refine ⟨bk B, 0, none, _, Evt.bind hf (Evt.ifn (by omega) (Evt.call (twin_ok (by omega)) (Evt.ifp (by omega) (Evt.ifp (by omega) (Evt.ifn hd2 (Evt.ifp (by rw [hr]; exact q) (Evt.pure fun _ => rfl))))))), rfl, hB, rfl, ?_⟩
        rw [e, tot_append, tot_cons]; exact ht
      · rw [if_neg q]
        obtain ⟨e2, o2⟩ := a4 ⟨(bkGet B s).f0, (bkGet B s).f2, 0, (bkGet B s).f3⟩
        have hk3 : (0 : Int) ≤ (bkGet B s).f2 ∧ (bkGet B s).f2 ≤ 1048576 := hk.2.2
        have okn : okc (cv ⟨(bkGet B s).f0, (bkGet B s).f2, 0, (bkGet B s).f3⟩) := ⟨show 1 ≤ (bkGet B s).f2 by omega, hk3.2, Int.le_refl 0, show (0 : Int) ≤ 1048576 by decide⟩
        rw [okc_nz okn] at e2
        simp only [Bool.false_eq_true, if_false, List.singleton_append] at e2
        have hst : (bk B).set (L1.length : Int).toNat (⟨(rd_T51 (bk B) (L1.length : Int)).f0, (rd_T51 (bk B) (L1.length : Int)).f2, (rd_T51 (bk B) (L1.length : Int)).f2, (rd_T51 (bk B) (L1.length : Int)).f3⟩ : S51) = L1 ++ ⟨(bkGet B s).f0, (bkGet B s).f2, (bkGet B s).f2, (bkGet B s).f3⟩ :: L2 := by
          rw [hr, e]; exact set_here _ _ _ _
        refine ⟨bk (bkSet B s ⟨(bkGet B s).f0, (bkGet B s).f2, 0, (bkGet B s).f3⟩), 1, none, _, Evt.bind hf (Evt.ifn (by omega) (Evt.call (twin_ok (by omega)) (Evt.ifp (by omega) (Evt.ifp (by omega) (Evt.ifn hd2 (Evt.ifn (by rw [hr]; exact q) (Evt.ifp (by omega) (Evt.call rfl (Evt.pure fun _ => ?_))))))))), by rw [hd], ?_, rfl, ?_⟩
        · rw [hst, rd_mid, e2, set_here]; rfl
        · exact o2 (.inr ⟨hs, okn⟩)
        · rw [e2, tot_append, tot_cons]
          have c1 : cnt (cv ⟨(bkGet B s).f0, (bkGet B s).f2, 0, (bkGet B s).f3⟩) ≤ cnt (cv (bkGet B s)) := by
            show mx (bkGet B s).f2 0 ≤ mx (bkGet B s).f1 (bkGet B s).f2
            unfold mx; split <;> split <;> omega
          omega
theorem do_rel {B : List S28} {l : List S51} (hI : Inv B l) (a0 a1 a2 : Int) :
    ∃ l' B', Evt (fun k => tithelaw08_do.f k B l a0 a1 a2) (l', true, B') ∧ Inv B' l' := by
  unfold tithelaw08_do.f
  by_cases t0 : Int.tmod (wrap64 (Int.tmod a0 5 + 5)) 5 = 0
  · obtain ⟨l', e, B', h1, h2, h3⟩ := Add_rel hI a1 a2
    refine ⟨l', B', Evt.ifp t0 (Evt.bind h1 (Evt.call (a := (e, B')) (by unfold bk_Add.f; rw [h2]) (Evt.call (num_nu e) (Evt.pure fun _ => by simp)))), h3⟩
  by_cases t1 : Int.tmod (wrap64 (Int.tmod a0 5 + 5)) 5 = 1
  · obtain ⟨l', e, B', h1, h2, h3⟩ := Resize_rel hI a1 a2
    refine ⟨l', B', Evt.ifn t0 (Evt.ifp t1 (Evt.bind h1 (Evt.call (a := (e, B')) (by unfold bk_Resize.f; rw [h2]) (Evt.call (num_nu e) (Evt.pure fun _ => by simp))))), h3⟩
  by_cases t2 : Int.tmod (wrap64 (Int.tmod a0 5 + 5)) 5 = 2
  · obtain ⟨l', e, B', h1, h2, h3⟩ := Die_rel hI a1
    refine ⟨l', B', Evt.ifn t0 (Evt.ifn t1 (Evt.ifp t2 (Evt.bind h1 (Evt.call (a := (e, B')) (by unfold bk_Die.f; rw [h2]) (Evt.call (num_nu e) (Evt.pure fun _ => by simp)))))), h3⟩
  · obtain ⟨l', x, e, B', h1, h2, h3⟩ := Cross_rel hI a1
    refine ⟨l', B', Evt.ifn t0 (Evt.ifn t1 (Evt.ifn t2 (Evt.bind h1 (Evt.call (a := (x, e, B')) (by unfold bk_Cross.f; rw [h2]) (Evt.ifp rfl (Evt.call (num_nu e) (Evt.pure fun _ => by simp))))))), h3⟩
theorem new_inv : Inv bkNew [] := by
  refine ⟨⟨by simp [bkNew], fun i hi h => ?_⟩, ?_, by decide⟩
  · have : bkNew.getD i z28 = z28 := by
      unfold bkNew
      rw [List.getD_eq_getElem?_getD, List.getElem?_replicate]
      split <;> rfl
    rw [this] at h
    exact absurd h (by decide)
  · have : bkL bkNew = [] := by decide
    unfold bk; rw [this]; rfl
theorem works08 : tithelaw08_works.f = some true := by kernel_rfl
end Go.Proofs.YtaoicceakgipgaaDoor.Pure
