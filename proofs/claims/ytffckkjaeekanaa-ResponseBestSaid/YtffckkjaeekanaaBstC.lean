/- Priorities by trial of every order, and by due times. No conditions. -/
import Derived.Test.YtffckkjaeekanaaBstB
import Derived.Test.YtffckkjaeekanaaDeadW
import Derived.Test.YtffckkjaeekanaaBx15
set_option linter.unusedVariables false
namespace Go.Proofs.Ytffckkjaeekanaa.Pure
open Go Go.RowKit Tithe Go.Proofs.Ytffckkjaeekanaa.B Go.Proofs.YtffckkjaeekanaaW.PrintWords Go.Proofs.YtffckkjaeekanaaW.PrintLast Go.Proofs.YtffckkjaeekanaaW.PrintMore
theorem RefFits_ok {l : List S39} {m : List S48} (h : fc l m = 0) : ∃ n : Int, Evt (fun k => titheref22_Fits.f k l m) n ∧ (n = 0 ↔ ∀ j : Nat, j < l.length → fitAt l m j) := by
  obtain ⟨b, p1, p2⟩ := Fits_ok h
  obtain ⟨h8, _⟩ := fc_ok h
  obtain ⟨hm8, _⟩ := fc_row h
  obtain ⟨L, e, n, q1, q2, q3, _⟩ := All_rel (l := l) (m := m) (by omega) (by omega)
  have q4 : Evt (fun k => response_Fits.f k l m) e := by unfold response_Fits.f; exact Evt.bind q1 (Evt.pure fun _ => rfl)
  have he := Evt.inj q4 p1
  refine ⟨n, by unfold titheref22_Fits.f; exact Evt.bind q2 (Evt.pure fun _ => rfl), ?_⟩
  rw [← p2, ← q3, he]
  cases b with
  | true => simp [nm]
  | false => simp [nm]
/-! trial of every order -/
def usL (n : Nat) (u : Nat → Bool) : List Bool := (List.range n).map u
theorem usL_len (n : Nat) (u : Nat → Bool) : (usL n u).length = n := by simp [usL]
theorem usL_rd {n : Nat} {u : Nat → Bool} {i : Nat} (h : i < n) : rdOf false (usL n u) (i : Int) = u i := by simp [rdOf, usL, h]
def setV (f : Nat → Bool) (i : Nat) (v : Bool) : Nat → Bool := fun k => if k = i then v else f k
theorem usL_set (n : Nat) (u : Nat → Bool) (i : Nat) (v : Bool) : (usL n u).set i v = usL n (setV u i v) := by
  apply List.ext_getElem
  · simp [usL]
  · intro k h1 h2
    rw [List.getElem_set]
    by_cases e : i = k
    · subst e; simp [usL, setV]
    · rw [if_neg e]; simp [usL, setV, Ne.symm e]
theorem usL_congr {n : Nat} {u u' : Nat → Bool} (h : ∀ k, k < n → u k = u' k) : usL n u = usL n u' := by
  unfold usL; apply List.map_congr_left; intro k hk; exact h k (List.mem_range.1 hk)
theorem outA_set {l : List S39} {ps : Nat → Int} {i : Nat} (hi : i < l.length) (v : Int) (x : S39) (hx : x = prio (rd_T39 l (i : Int)) v) : (outA l ps).set i x = outA l (setP ps i v) := by
  subst hx
  apply List.ext_getElem
  · simp [outA]
  · intro k h1 h2
    rw [List.getElem_set]
    by_cases e : i = k
    · subst e; simp [outA, setP]
    · rw [if_neg e]; simp [outA, setP, Ne.symm e]
/-- there are priorities that go on from these, with which all is in time -/
def Ex (l : List S39) (m : List S48) (ps : Nat → Int) (u : Nat → Bool) : Prop := ∃ qs, Good l m qs ∧ ∀ k, k < l.length → u k = true → qs k = ps k
structure Inv (n : Nat) (v : Nat) (ps : Nat → Int) (u : Nat → Bool) : Prop where
  r : ∀ k, k < n → u k = true → 0 ≤ ps k ∧ ps k < (v : Int)
  inj : ∀ i k, i < n → k < n → u i = true → u k = true → i ≠ k → ps i ≠ ps k
  sur : ∀ w : Nat, w < v → ∃ k, k < n ∧ u k = true ∧ ps k = (w : Int)
theorem Inv.set {n v : Nat} {ps : Nat → Int} {u : Nat → Bool} (h : Inv n v ps u) {i : Nat} (hi : i < n) (hu : u i = false) : Inv n (v + 1) (setP ps i (v : Int)) (setB u i) := by
  have hs : ∀ k, k ≠ i → setP ps i (v : Int) k = ps k := fun k hk => if_neg hk
  have hsi : setP ps i (v : Int) i = (v : Int) := if_pos rfl
  have hb : ∀ k, k ≠ i → setB u i k = u k := fun k hk => if_neg hk
  have hbi : setB u i i = true := if_pos rfl
  refine ⟨fun k hk hu2 => ?_, fun a b ha hb2 h1 h2 hne => ?_, fun w hw => ?_⟩
  · by_cases e : k = i
    · rw [e, hsi]; omega
    · rw [hs k e]; rw [hb k e] at hu2
      have := h.r k hk hu2; omega
  · by_cases e : a = i
    · subst e
      have e2 := Ne.symm hne
      rw [hsi, hs b e2]; rw [hb b e2] at h2
      have := h.r b hb2 h2; omega
    · rw [hb a e] at h1
      by_cases e2 : b = i
      · subst e2
        rw [hsi, hs a e]
        have := h.r a ha h1; omega
      · rw [hb b e2] at h2
        rw [hs a e, hs b e2]; exact h.inj a b ha hb2 h1 h2 hne
  · by_cases e : w = v
    · exact ⟨i, hi, hbi, by rw [hsi, e]⟩
    · obtain ⟨k, hk, h1, h2⟩ := h.sur w (by omega)
      have hne : k ≠ i := fun e => by rw [e, hu] at h1; simp at h1
      exact ⟨k, hk, by rw [hb k hne]; exact h1, by rw [hs k hne]; exact h2⟩
theorem Ex_step {l : List S39} {m : List S48} {v : Nat} {ps : Nat → Int} {u : Nat → Bool} (h : Inv l.length v ps u) (hv : v < l.length) : Ex l m ps u ↔ ∃ i, i < l.length ∧ u i = false ∧ Ex l m (setP ps i (v : Int)) (setB u i) := by
  constructor
  · rintro ⟨qs, hg, ho⟩
    obtain ⟨i, hi, he⟩ := hg.1.sur v hv
    have hu : u i = false := by
      cases hq : u i with
      | false => rfl
      | true =>
        have := ho i hi hq
        have := h.r i hi hq
        omega
    refine ⟨i, hi, hu, qs, hg, fun k hk hk2 => ?_⟩
    unfold setP
    by_cases e : k = i
    · rw [if_pos e, e, he]
    · rw [if_neg e]
      refine ho k hk ?_
      have : setB u i k = u k := if_neg e
      rw [← this]; exact hk2
  · rintro ⟨i, hi, hu, qs, hg, ho⟩
    refine ⟨qs, hg, fun k hk hk2 => ?_⟩
    have hne : k ≠ i := fun e => by rw [e, hu] at hk2; simp at hk2
    have := ho k hk (by show setB u i k = true; unfold setB; rw [if_neg hne]; exact hk2)
    rw [this]
    exact if_neg hne
theorem perm_evt {l : List S39} {m : List S48} (h : fc l m = 0) : ∀ (d v : Nat) (ps : Nat → Int) (u : Nat → Bool), v + d = l.length → cnt u l.length = d → Inv l.length v ps u →
    ∃ b : Bool, Evt (fun k => tithelaw22_permuted.f k (outA l ps) (usL l.length u) (v : Int) m) (b, outA l ps, usL l.length u) ∧ (b = true ↔ Ex l m ps u) := by
  obtain ⟨h8, hok⟩ := fc_ok h
  intro d
  induction d with
  | zero =>
    intro v ps u hv hc hI
    have hall := cnt_zero hc
    have hp : ∀ k, k < l.length → 0 ≤ ps k ∧ ps k ≤ 31 := fun k hk => by have := hI.r k hk (hall k hk); omega
    obtain ⟨n, q1, q2⟩ := RefFits_ok (fc_outA h hp)
    refine ⟨n == 0, Evt.succ ?_, ?_⟩
    · simp only [tithelaw22_permuted.f]
      refine Evt.ifp (by rw [outA_len']; omega) (Evt.bind q1 (Evt.pure fun _ => rfl))
    · rw [beq_iff_eq, q2, outA_len']
      constructor
      · intro hf
        exact ⟨ps, ⟨⟨fun i hi => by have := hI.r i hi (hall i hi); omega, fun i k hi hk hne => hI.inj i k hi hk (hall i hi) (hall k hk) hne, fun w hw => by obtain ⟨k, hk, _, he⟩ := hI.sur w (by omega); exact ⟨k, hk, he⟩⟩, hf⟩, fun _ _ _ => rfl⟩
      · rintro ⟨qs, hg, ho⟩
        have e : outA l qs = outA l ps := outA_congr fun k hk => ho k hk (hall k hk)
        rw [← e]; exact hg.2
  | succ d ih =>
    intro v ps u hv hc hI
    have loop : ∀ (e j : Nat), j + e = l.length → ∃ b : Bool, Evt (fun k => tithelaw22_permuted.l0 k (outA l ps) (usL l.length u) (v : Int) m (j : Int)) (b, outA l ps, usL l.length u) ∧ (b = true ↔ ∃ i, j ≤ i ∧ i < l.length ∧ u i = false ∧ Ex l m (setP ps i (v : Int)) (setB u i)) := by
      intro e
      induction e with
      | zero =>
        intro j hj
        refine ⟨false, Evt.succ ?_, ?_⟩
        · simp only [tithelaw22_permuted.l0]
          exact Evt.ifn (by rw [outA_len']; omega) (Evt.pure fun _ => rfl)
        · constructor
          · intro h; simp at h
          · rintro ⟨i, h1, h2, _⟩; omega
      | succ e ihe =>
        intro j hj
        obtain ⟨b2, y1, y2⟩ := ihe (j + 1) (by omega)
        have hjl : j < l.length := by omega
        cases huj : u j with
        | true =>
          refine ⟨b2, Evt.succ ?_, ?_⟩
          · simp only [tithelaw22_permuted.l0]
            rw [w1 j (by omega)]
            exact Evt.ifp (by rw [outA_len']; omega) (Evt.ifp (by omega) (Evt.ifp (by rw [usL_len]; omega) (Evt.ifp (by rw [usL_rd hjl]; exact huj) y1)))
          · rw [y2]
            constructor
            · rintro ⟨i, h1, h2, h3⟩; exact ⟨i, by omega, h2, h3⟩
            · rintro ⟨i, h1, h2, h3, h4⟩
              refine ⟨i, ?_, h2, h3, h4⟩
              rcases Nat.lt_or_ge j i with h | h
              · exact h
              · obtain rfl : i = j := by omega
                rw [huj] at h3; simp at h3
        | false =>
          have hcs : cnt (setB u j) l.length = d := by have := (cnt_set huj (n := l.length)).1 hjl; omega
          obtain ⟨b1, z1, z2⟩ := ih (v + 1) (setP ps j (v : Int)) (setB u j) (by omega) hcs (hI.set hjl huj)
          have e1 : (outA l ps).set j (⟨(rd_T39 (outA l ps) (j : Int)).f0, (rd_T39 (outA l ps) (j : Int)).f1, (rd_T39 (outA l ps) (j : Int)).f2, (v : Int)⟩ : S39) = outA l (setP ps j (v : Int)) := outA_set hjl _ _ (by rw [outA_rd hjl]; rfl)
          have e2 : (usL l.length u).set j true = usL l.length (setB u j) := usL_set _ _ _ _
          have e3 : (outA l (setP ps j (v : Int))).set j (⟨(rd_T39 (outA l (setP ps j (v : Int))) (j : Int)).f0, (rd_T39 (outA l (setP ps j (v : Int))) (j : Int)).f1, (rd_T39 (outA l (setP ps j (v : Int))) (j : Int)).f2, (rd_T39 (outA l ps) (j : Int)).f3⟩ : S39) = outA l ps := by
            rw [outA_set hjl (ps j) _ (by rw [outA_rd hjl, outA_rd hjl]; rfl)]
            refine outA_congr fun k hk => ?_
            unfold setP
            by_cases e : k = j
            · rw [if_pos e, e]
            · rw [if_neg e, if_neg e]
          have e4 : (usL l.length (setB u j)).set j false = usL l.length u := by
            rw [usL_set]
            refine usL_congr fun k hk => ?_
            unfold setV setB
            by_cases e : k = j
            · rw [if_pos e, e, huj]
            · rw [if_neg e, if_neg e]
          have go1 : ∀ r, Evt (fun k => if b1 = true then some (true, outA l ps, usL l.length u) else tithelaw22_permuted.l0 k (outA l ps) (usL l.length u) (v : Int) m ((j + 1 : Nat) : Int)) r → Evt (fun k => tithelaw22_permuted.l0 k (outA l ps) (usL l.length u) (v : Int) m (j : Int)) r := by
            intro r hr
            refine Evt.succ ?_
            simp only [tithelaw22_permuted.l0]
            rw [w1 j (by omega), w1 v (by omega), Int.toNat_natCast, e1, e2]
            refine Evt.ifp (by rw [outA_len']; omega) (Evt.ifp (by omega) (Evt.ifp (by rw [usL_len]; omega) (Evt.ifn (by rw [usL_rd hjl, huj]; simp) (Evt.bind z1 (Evt.call (a := outA l ps) (by rw [e3]) (Evt.call (a := usL l.length u) (by rw [e4]) hr))))))
          cases b1 with
          | true => exact ⟨true, go1 _ (Evt.ifp rfl (Evt.pure fun _ => rfl)), fun _ => ⟨j, Nat.le_refl _, hjl, huj, z2.1 rfl⟩, fun _ => rfl⟩
          | false =>
            refine ⟨b2, go1 _ (Evt.ifn (by simp) y1), ?_⟩
            rw [y2]
            constructor
            · rintro ⟨i, h1, h2, h3⟩; exact ⟨i, by omega, h2, h3⟩
            · rintro ⟨i, h1, h2, h3, h4⟩
              refine ⟨i, ?_, h2, h3, h4⟩
              rcases Nat.lt_or_ge j i with h | h
              · exact h
              · obtain rfl : i = j := by omega
                have := z2.2 h4
                simp at this
    obtain ⟨b, y1, y2⟩ := loop l.length 0 (by omega)
    refine ⟨b, Evt.succ ?_, ?_⟩
    · simp only [tithelaw22_permuted.f]
      exact Evt.ifn (by rw [outA_len']; omega) y1
    · rw [y2, Ex_step hI (by omega)]
      constructor
      · rintro ⟨i, _, h2, h3⟩; exact ⟨i, h2, h3⟩
      · rintro ⟨i, h2, h3⟩; exact ⟨i, Nat.zero_le _, h2, h3⟩
theorem perm_top {l : List S39} {m : List S48} (h : fc l m = 0) : ∃ (b : Bool) (x : List S39) (y : List Bool), Evt (fun k => tithelaw22_permuted.f k l (List.replicate l.length false) 0 m) (b, x, y) ∧ (b = true ↔ ∃ ps, Good l m ps) := by
  obtain ⟨b, q1, q2⟩ := perm_evt h l.length 0 (fun i => (rd_T39 l (i : Int)).f3) (fun _ => false) (by omega) (cnt_none _) ⟨fun k _ h => by simp at h, fun i k _ _ h => by simp at h, fun w hw => absurd hw (by omega)⟩
  rw [outA_self] at q1
  have e : usL l.length (fun _ => false) = List.replicate l.length false := by
    apply List.ext_getElem
    · simp [usL]
    · intro i h1 h2; simp [usL]
  rw [e] at q1
  refine ⟨b, _, _, q1, ?_⟩
  rw [q2]
  constructor
  · rintro ⟨qs, hg, _⟩; exact ⟨qs, hg⟩
  · rintro ⟨qs, hg⟩; exact ⟨qs, hg, fun k _ h => by simp at h⟩
/-! by due times -/
def od (l : List S39) : List Nat := srt (fun i k : Nat => decide ((rd_T39 l (i : Int)).f2 < (rd_T39 l (k : Int)).f2)) (List.range l.length)
theorem ordD_eq (l : List S39) : ordD l = (od l).map fun j : Nat => (j : Int) := rfl
theorem od_perm (l : List S39) : (od l).Perm (List.range l.length) := srt_perm _ _
theorem od_length (l : List S39) : (od l).length = l.length := by rw [(od_perm l).length_eq, List.length_range]
theorem od_mem {l : List S39} {i : Nat} : i ∈ od l ↔ i < l.length := by rw [(od_perm l).mem_iff, List.mem_range]
theorem od_nodup (l : List S39) : (od l).Nodup := (od_perm l).nodup_iff.2 List.nodup_range
theorem od_sorted (l : List S39) : (od l).Pairwise (fun a b : Nat => (rd_T39 l (a : Int)).f2 ≤ (rd_T39 l (b : Int)).f2) := by
  refine List.Pairwise.imp ?_ (srt_sorted (fun i : Nat => (rd_T39 l (i : Int)).f2) (fun i : Nat => (i : Int)) (List.range l.length) ?_)
  · intro a b h
    simp only [ahd] at h
    omega
  · refine List.Pairwise.imp ?_ List.pairwise_lt_range
    intro a b h; omega
theorem rk_at (l : List S39) : ∀ (r : Nat), r ≤ l.length → ∀ j (hj : j < (od l).length), j < r → rkN l r (od l)[j] = (j : Int)
  | 0, _, j, _, h => absurd h (by omega)
  | r + 1, hr, j, hj, hjr => by
    have hrl : r < (od l).length := by rw [od_length]; omega
    have e : (rd (ordD l) (r : Int)).toNat = (od l)[r] := by
      rw [ordD_eq, rd_map _ hrl]; rfl
    show setP (rkN l r) (rd (ordD l) (r : Int)).toNat (r : Int) (od l)[j] = _
    rw [e]
    unfold setP
    by_cases h : j = r
    · subst h; rw [if_pos rfl]
    · rw [if_neg (fun h2 => h ((List.getElem_inj (od_nodup l)).1 h2))]
      exact rk_at l r (by omega) j hj (by omega)
theorem rk_ix {l : List S39} {k : Nat} (hk : k < l.length) : ∃ (j : Nat) (hj : j < (od l).length), (od l)[j] = k ∧ rkN l l.length k = (j : Int) := by
  obtain ⟨j, hj, e⟩ := List.getElem_of_mem (od_mem.2 hk)
  refine ⟨j, hj, e, ?_⟩
  rw [← e]
  exact rk_at l l.length (Nat.le_refl _) j hj (by rw [od_length] at hj; exact hj)
theorem rk_bij (l : List S39) : Bij l.length (rkN l l.length) := by
  refine ⟨fun i hi => ?_, fun i k hi hk hne h => ?_, fun w hw => ?_⟩
  · obtain ⟨j, hj, _, e⟩ := rk_ix hi
    rw [od_length] at hj
    omega
  · obtain ⟨j, hj, e1, e2⟩ := rk_ix hi
    obtain ⟨j', hj', e3, e4⟩ := rk_ix hk
    obtain rfl : j = j' := by omega
    exact hne (e1.symm.trans e3)
  · have hj : w < (od l).length := by rw [od_length]; exact hw
    refine ⟨(od l)[w], ?_, rk_at l l.length (Nat.le_refl _) w hj hw⟩
    exact od_mem.1 (List.getElem_mem hj)
theorem rk_due {l : List S39} {i k : Nat} (hi : i < l.length) (hk : k < l.length) (h : rkN l l.length i ≤ rkN l l.length k) : (rd_T39 l (i : Int)).f2 ≤ (rd_T39 l (k : Int)).f2 := by
  obtain ⟨j, hj, e1, e2⟩ := rk_ix hi
  obtain ⟨j', hj', e3, e4⟩ := rk_ix hk
  rcases Nat.lt_or_ge j j' with h2 | h2
  · have := List.pairwise_iff_getElem.1 (od_sorted l) j j' hj hj' h2
    rw [e1, e3] at this
    exact this
  · obtain rfl : j = j' := by omega
    rw [← e1, ← e3]; exact Int.le_refl _
theorem rq_one {x : S39} (hx : okp x) {t : Int} (h0 : 1 ≤ t) (h1 : t ≤ x.f0) : rq x t = x.f1 := by
  obtain ⟨a, _⟩ := hx
  unfold rq
  have : cl x.f0 t = 1 := by
    by_cases e : t = x.f0
    · have := cl_split (e := x.f0) (q := 1) (r := 0) (by omega) (by omega)
      rw [if_pos rfl] at this
      rw [← this]; congr 1; omega
    · have := cl_split (e := x.f0) (q := 0) (r := t) (by omega) (by omega)
      rw [if_neg (by omega)] at this
      rw [show (0 : Int) * x.f0 + t = t by omega] at this
      exact this
  rw [this, Int.mul_one]
theorem Sq_whole {l : List S39} {has : Nat → Bool} {i : Nat} (hi : i < l.length) (hh : has i = false) (hx : okp (rd_T39 l (i : Int))) {t : Int} (h0 : 1 ≤ t) (h1 : t ≤ (rd_T39 l (i : Int)).f0) : (rd_T39 l (i : Int)).f1 + Sq l has i t = sm l.length (fun k => if has k = false then rq (rd_T39 l (k : Int)) t else 0) := by
  have e := sm_but (g := fun k => if has k = false then rq (rd_T39 l (k : Int)) t else 0) hi
  simp only [hh, if_true] at e
  rw [rq_one hx h0 h1] at e
  have e2 : Sq l has i t = sm l.length (fun k => if k ≠ i then (if has k = false then rq (rd_T39 l (k : Int)) t else 0) else 0) := by
    refine sm_congr fun k _ => ?_
    by_cases hk : k = i
    · simp [hk]
    · simp [hk]
  rw [e2, e]
  omega
/-- where some priorities fit, those by due times do -/
theorem due_good {l : List S39} {m : List S48} (hok : ∀ x ∈ l, okp x) (hF : F l m l.length (fun _ => false)) : Good l m (rkN l l.length) := by
  have B := rk_bij l
  refine ⟨B, fun i hi => ?_⟩
  obtain ⟨has, hhas⟩ : ∃ has : Nat → Bool, has = fun q => decide (rkN l l.length i < rkN l l.length q) := ⟨_, rfl⟩
  have hq : ∀ q, has q = false ↔ rkN l l.length q ≤ rkN l l.length i := fun q => by
    rw [hhas]
    show decide _ = false ↔ _
    rw [decide_eq_false_iff_not]; omega
  have hi0 : has i = false := (hq i).2 (Int.le_refl _)
  have hc1 := (cnt_set hi0 (n := l.length)).1 hi
  have hF2 := F_sub hok l.length (fun _ => false) (cnt_none _) hF (cnt (setB has i) l.length + 1) has hc1.symm (fun _ _ _ => rfl)
  obtain ⟨j, hj, hj0, ⟨t, t0, t1, t2⟩, _⟩ := hF2
  have hd := rk_due hj hi ((hq j).1 hj0)
  have hxj := okp_rd hok hj
  have hxi := okp_rd hok hi
  have a4 := hxj.2.2.2.2.2.1
  have b4 := hxi.2.2.2.2.2.1
  rw [Sq_whole hj hj0 hxj t0 (by omega), ← Sq_whole hi hi0 hxi t0 (by omega)] at t2
  refine ⟨t, t0, by rw [out_f2 hi]; omega, ?_⟩
  rw [out_lev B hi]
  have es : Sq l has i t = sm l.length (fun k => if k ≠ i ∧ rkN l l.length k < rkN l l.length i then rq (rd_T39 l (k : Int)) t else 0) := by
    refine sm_congr fun k hk => ?_
    by_cases e : k = i
    · simp [e]
    · have hne := B.inj k i hk hi e
      have := hq k
      by_cases hlt : rkN l l.length k < rkN l l.length i
      · rw [if_pos ⟨e, this.2 (by omega)⟩, if_pos ⟨e, hlt⟩]
      · rw [if_neg (fun h => hlt (by have := this.1 h.2; omega)), if_neg (fun h => hlt h.2)]
  rw [es] at t2
  exact t2
end Go.Proofs.Ytffckkjaeekanaa.Pure
