/- Proved: the law EdfIdle over its printed function: each tick of edf.Plan is that of the first end among those that have budget left, or nobody's where nobody has. No conditions. -/
import Derived.Test.YthhaikkicabplaaRDefEdfIdle
import Derived.Test.YthhaikkicabplaaREdfPlan
import Derived.Test.YthhaikkicabplaaREdfWorks
namespace Go.Proofs.YthhaikkicabplaaR.Pure
open Go Go.RowKit Tithe Go.Proofs.YthhaikkicabplaaR.X Go.Proofs.YthhaikkicabplaaRW.PrintWords Go.Proofs.YthhaikkicabplaaRW.PrintLast Go.Proofs.YthhaikkicabplaaRW.PrintMore

theorem rdI_set' {c : List Int} {i : Nat} (v : Int) (hi : i < c.length) (j : Nat) : rd (c.set i v) (j : Int) = if i = j then v else rd c (j : Int) := by
  unfold rd
  rw [show ((j : Int)).toNat = j by omega]
  simp only [List.getD, List.getElem?_set]
  by_cases h : i = j
  · rw [if_pos h, if_pos h, if_pos hi]; rfl
  · rw [if_neg h, if_neg h]

theorem had_bounds {I : Items} (hI : Fine I) {pl : Int → Int} {t : Int} {j : Nat} (hj : j < I.m) : 0 ≤ I.had pl j t ∧ I.had pl j t ≤ 1048576 := by
  obtain ⟨h1, h2, h3, h4, h5⟩ := hI.2 j hj
  have h0 := cn_nonneg pl j (bg (I.s j) (I.p j) t) t
  have hb := bg_le (s := I.s j) (t := t) (p := I.p j) (by omega)
  have hl := lt_bg (s := I.s j) (t := t) (p := I.p j) (by omega)
  have hle : cn pl j (bg (I.s j) (I.p j) t) t ≤ t - bg (I.s j) (I.p j) t := by
    have := sm_cn_le pl (j + 1) hb
    simp only [sm] at this
    have h2 : 0 ≤ sm (fun j => cn pl j (bg (I.s j) (I.p j) t) t) 0 := by simp [sm]
    have : ∀ n, 0 ≤ sm (fun i => cn pl i (bg (I.s j) (I.p j) t) t) n := by
      intro n
      induction n with
      | zero => simp [sm]
      | succ n ih => simp only [sm]; have := cn_nonneg pl n (bg (I.s j) (I.p j) t) t; omega
    have := this j
    omega
  unfold Items.had; omega

/-- what the row of counts says at a tick's head: of those whose period does not begin there -/
def HadB (I : Items) (pl : Int → Int) (t : Int) (hd : List Int) : Prop := ∀ j, j < I.m → I.s j ≤ t → ¬ (t - I.s j) % I.p j = 0 → rd hd j = I.had pl j t

theorem had_new {I : Items} {pl : Int → Int} {t : Int} {j : Nat} (h : (t - I.s j) % I.p j = 0) : I.had pl j t = 0 := by
  unfold Items.had; rw [bg_same h, cn_self]

theorem had_next {I : Items} (hI : Fine I) {pl : Int → Int} {t : Int} {j : Nat} (hj : j < I.m) (h : ¬ (t + 1 - I.s j) % I.p j = 0) : I.had pl j (t + 1) = I.had pl j t + (if pl t = j then 1 else 0) := by
  obtain ⟨h1, h2, h3, h4, h5⟩ := hI.2 j hj
  unfold Items.had
  rw [(bg_next (by omega)).2 h, cn_succ _ _ (bg_le (by omega))]

set_option maxHeartbeats 2000000 in
theorem idle_loops (l : List S43) (hv : vLL l = 0) (n : Nat) (hn : n ≤ 4096) (p : List Int) (hg : Greedy (It l) p n) :
    ∀ (d t : Nat) (hd : List Int), t + d = n → hd.length = l.length → HadB (It l) (rd p) t hd →
      Evt (fun k => tithelaw10_EdfIdle.l0 k l n p hd t) true := by
  have hI := It_fine hv
  have hm : l.length ≤ 64 := hI.1
  intro d
  induction d with
  | zero =>
    intro t hd ht hl hh
    obtain rfl : t = n := by omega
    refine Evt.succ ?_
    simp only [tithelaw10_EdfIdle.l0]
    exact Evt.ifn (by omega) (Evt.bind works_evt (Evt.pure fun _ => rfl))
  | succ d ih =>
    intro t hd ht hl hh
    have htn : t < n := by omega
    have inner : ∀ (e i : Nat) (hd : List Int) (b en : Int), i + e = l.length → hd.length = l.length →
        (∀ j, j < i → (It l).s j ≤ t → rd hd j = (It l).had (rd p) j t) →
        (∀ j, i ≤ j → j < l.length → (It l).s j ≤ t → ¬ (t - (It l).s j) % (It l).p j = 0 → rd hd j = (It l).had (rd p) j t) →
        PickIs i (fun j => (j : Int)) (lfA (It l) (rd p) t) (enA (It l) t) b → (∀ b' : Nat, b = b' → en = enA (It l) t b') →
        Evt (fun k => tithelaw10_EdfIdle.l1 k l n p hd t b en i) true := by
      intro e
      induction e with
      | zero =>
        intro i hd b en hi hl hA _ hp _
        obtain rfl : i = l.length := by omega
        have hb : rd p t = b := (hg.2 t htn).uniq hp
        have hrange := hp.range
        have next : ∀ hd', hd'.length = l.length → (∀ j, j < l.length → rd hd' j = rd hd j + (if b = j then 1 else 0)) → HadB (It l) (rd p) ((t + 1 : Nat) : Int) hd' := by
          intro hd' _ h' j hj hs hmod
          rw [show ((t + 1 : Nat) : Int) = (t : Int) + 1 by omega] at hs hmod ⊢
          have hst : (It l).s j ≤ t := by
            by_cases h' : (It l).s j ≤ t
            · exact h'
            · exfalso; apply hmod; rw [show (t : Int) + 1 - (It l).s j = 0 by omega]; simp
          rw [had_next hI hj hmod, h' j hj, hA j hj hst, hb]
        have hbnd : ∀ j : Nat, j < l.length → (It l).s j ≤ t → 0 ≤ rd hd j ∧ rd hd j ≤ 1048576 := fun j hj hs => by rw [hA j hj hs]; exact had_bounds hI hj
        have hpl := hg.1
        refine Evt.succ ?_
        simp only [tithelaw10_EdfIdle.l1]
        rw [w1 t (by omega)]
        refine Evt.ifn (by omega) (Evt.ifp (by omega) (Evt.ifp (by omega) (Evt.ifp hb ?_)))
        by_cases hb0 : b ≥ 0
        · obtain ⟨b', rfl⟩ : ∃ b' : Nat, b = b' := ⟨b.toNat, by omega⟩
          have hbl : b' < l.length := by omega
          have hs : (It l).s b' ≤ t := by
            rcases hp with ⟨h', _⟩ | ⟨j', hj', e', hl', _⟩
            · omega
            · obtain rfl : b' = j' := by omega
              by_cases h' : (It l).s b' ≤ t
              · exact h'
              · unfold lfA at hl'; rw [if_pos (by omega)] at hl'; omega
          have hbb := hbnd b' hbl hs
          have e2 : Hd (wrap64 (rd hd b' + 1) = rd hd b' + 1) := ⟨w64 (by omega) (by omega)⟩
          refine Evt.ifp hb0 (Evt.ifp (by omega) (Evt.ifp (by omega) ?_))
          rw [show ((b' : Int)).toNat = b' by omega, e2.out]
          refine ih (t + 1) _ (by omega) (by simp [hl]) (next _ (by simp [hl]) (fun j hj => ?_))
          rw [rdI_set' _ (by omega)]
          by_cases h : b' = j
          · subst h; simp
          · rw [if_neg h, if_neg (by omega)]; omega
        · refine Evt.ifn hb0 (ih (t + 1) hd (by omega) hl (next hd hl (fun j hj => ?_)))
          rw [if_neg (by omega)]; omega
      | succ e ihe =>
        intro i hd b en hi hl hA hB hp hen
        have hil : i < l.length := by omega
        have him : i < (It l).m := hil
        have hIi := hI.2 i him
        have hx : rd_T43 l (i : Int) = ⟨(It l).q i, (It l).p i, (It l).s i⟩ := rfl
        refine Evt.succ ?_
        simp only [tithelaw10_EdfIdle.l1]
        rw [w1 i (by omega), hx]
        simp only []
        refine Evt.ifp (by omega) (Evt.ifp (by omega) ?_)
        by_cases hs : (t : Int) < (It l).s i
        · refine Evt.ifp hs (ihe (i + 1) hd b en (by omega) hl (fun j hj hsj => ?_) (fun j hj => hB j (by omega)) (hp.step (by unfold lfA; rw [if_pos hs]; exact Int.le_refl 0)) hen)
          by_cases h : j = i
          · subst h; omega
          · exact hA j (by omega) hsj
        · refine Evt.ifn hs (Evt.ifn (by omega) ?_)
          have hmod0 := Int.emod_nonneg (t - (It l).s i) (b := (It l).p i) (by omega)
          have hmod1 := Int.emod_lt_of_pos (t - (It l).s i) (b := (It l).p i) (by omega)
          have hen' : enA (It l) t i = t - (t - (It l).s i) % (It l).p i + (It l).p i := by unfold enA Items.en bg; rw [if_neg hs]
          rw [w64 (n := (t : Int) - (It l).s i) (by omega) (by omega), tmod_pos (by omega), w64 (n := (t : Int) - (t - (It l).s i) % (It l).p i) (by omega) (by omega),
            w64 (n := (t : Int) - (t - (It l).s i) % (It l).p i + (It l).p i) (by omega) (by omega), show ((i : Int)).toNat = i by omega, ← hen']
          -- what follows of the count of i
          have go : ∀ hd' : List Int, hd'.length = l.length → (∀ j, j < i + 1 → (It l).s j ≤ t → rd hd' j = (It l).had (rd p) j t) →
              (∀ j, i + 1 ≤ j → j < l.length → (It l).s j ≤ t → ¬ (t - (It l).s j) % (It l).p j = 0 → rd hd' j = (It l).had (rd p) j t) →
              Evt (fun k => if rd hd' i < (It l).q i then (if b < 0 then tithelaw10_EdfIdle.l1 k l n p hd' t i (enA (It l) t i) ((i + 1 : Nat) : Int) else (if enA (It l) t i < en then tithelaw10_EdfIdle.l1 k l n p hd' t i (enA (It l) t i) ((i + 1 : Nat) : Int) else tithelaw10_EdfIdle.l1 k l n p hd' t b en ((i + 1 : Nat) : Int))) else tithelaw10_EdfIdle.l1 k l n p hd' t b en ((i + 1 : Nat) : Int)) true := by
            intro hd' hl' hA' hB'
            have hrd := hA' i (by omega) (by omega)
            have hlf : lfA (It l) (rd p) t i = (It l).q i - (It l).had (rd p) i t := by unfold lfA; rw [if_neg hs]
            by_cases hq : rd hd' i < (It l).q i
            · refine Evt.ifp hq ?_
              have hpos : 0 < lfA (It l) (rd p) t i := by rw [hlf, ← hrd]; exact Int.sub_pos_of_lt hq
              by_cases hb : b < 0
              · exact Evt.ifp hb (ihe (i + 1) hd' i _ (by omega) hl' hA' hB' (hp.first hb hpos) (fun b' hb' => by rw [show b' = i by omega]))
              · refine Evt.ifn hb ?_
                obtain ⟨b', rfl⟩ : ∃ b' : Nat, b = b' := ⟨b.toNat, by omega⟩
                have hbe := hen b' rfl
                by_cases hlt : enA (It l) t i < en
                · refine Evt.ifp hlt (ihe (i + 1) hd' i _ (by omega) hl' hA' hB' (hp.turn hpos (.inl (by rw [← hbe]; exact hlt))) (fun b' hb' => by rw [show b' = i by omega]))
                · refine Evt.ifn hlt (ihe (i + 1) hd' b' en (by omega) hl' hA' hB' (hp.stay ?_) hen)
                  have hbi : b' < i := by
                    rcases hp with ⟨h', _⟩ | ⟨j', hj', e', _⟩ <;> omega
                  rw [← hbe]
                  rintro (h | ⟨_, h⟩)
                  · exact hlt h
                  · omega
            · refine Evt.ifn hq (ihe (i + 1) hd' b en (by omega) hl' hA' hB' (hp.step ?_) hen)
              rw [hlf, ← hrd]; exact Int.sub_nonpos_of_le (Int.not_lt.1 hq)
          by_cases hz : (t - (It l).s i) % (It l).p i = 0
          · refine Evt.ifp hz (Evt.ifp (by omega) ?_)
            simp only [Option.bind_some]
            refine go (hd.set i 0) (by simp [hl]) (fun j hj hsj => ?_) (fun j hj hjl hsj hmj => ?_)
            · rw [rdI_set' _ (by omega)]
              by_cases h : i = j
              · subst h; rw [if_pos rfl, had_new hz]
              · rw [if_neg h]; exact hA j (by omega) hsj
            · rw [rdI_set' _ (by omega), if_neg (by omega)]; exact hB j (by omega) hjl hsj hmj
          · refine Evt.ifn hz (Evt.ifp (by omega) ?_)
            refine go hd hl (fun j hj hsj => ?_) (fun j hj => hB j (by omega))
            by_cases h : j = i
            · rw [h]; exact hB i (Nat.le_refl _) hil (by omega) hz
            · exact hA j (by omega) hsj
    refine Evt.succ ?_
    simp only [tithelaw10_EdfIdle.l0]
    refine Evt.ifp (by omega) ?_
    exact inner l.length 0 hd (-1) 0 (by omega) hl (fun j hj => by omega) (fun j _ hj hs hm => hh j hj hs hm) (.inl ⟨rfl, fun j hj => by omega⟩) (fun b' hb' => by omega)

theorem EdfIdle : tithelaw10_EdfIdle.Pure := by
  intro l n _ hl _ _
  refine Evt.ex ?_
  have hll : l.length ≤ 140737488351232 := by omega
  have hn := pmod (a := n) (c := 200) (by omega) (by omega)
  unfold tithelaw10_EdfIdle.f
  generalize Int.tmod (wrap64 (Int.tmod n 200 + 200)) 200 = m at *
  obtain ⟨p, e, hp, hpe⟩ := Plan_evt l hll m
  refine Evt.bind (items_evt l hl) (Evt.bind hp ?_)
  rcases hpe with ⟨h, _, _⟩ | ⟨_, hv, rfl, rfl⟩ | ⟨_, hv, rfl, hg⟩
  · omega
  · rw [opt_pos hv]
    exact Evt.ifn (by simp) (Evt.ifp rfl (Evt.bind works_evt (Evt.pure fun _ => rfl)))
  · obtain ⟨m', rfl⟩ : ∃ m' : Nat, m = m' := ⟨m.toNat, by omega⟩
    rw [show ((m' : Int)).toNat = m' by omega] at hg
    have hm : l.length ≤ 64 := (It_fine hv).1
    refine Evt.ifp rfl (Evt.ifp (by show (p.length : Int) = m'; rw [hg.1]) (Evt.ifp (by omega) (Evt.ifp (by omega) ?_)))
    refine idle_loops l hv m' (by omega) p hg m' 0 (List.replicate ((l.length : Int)).toNat 0) (by omega) (by simp) (fun j hj hs hmod => ?_)
    have := (It_fine hv).2 j hj
    exfalso; apply hmod
    rw [show ((0 : Nat) : Int) - (It l).s j = 0 by omega]; simp
end Go.Proofs.YthhaikkicabplaaR.Pure
