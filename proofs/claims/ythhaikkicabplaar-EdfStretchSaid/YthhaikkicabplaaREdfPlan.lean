/- What edf.Plan and its reference answer: the error, or the one plan in which each tick goes to whom the rule picks. No conditions. -/
import Derived.Test.YthhaikkicabplaaREdfBase
namespace Go.Proofs.YthhaikkicabplaaR.Pure
open Go Go.RowKit Tithe Go.Proofs.YthhaikkicabplaaR.X Go.Proofs.YthhaikkicabplaaRW.PrintWords Go.Proofs.YthhaikkicabplaaRW.PrintLast Go.Proofs.YthhaikkicabplaaRW.PrintMore

/-- the items as plain numbers -/
def It (l : List S43) : Items := { m := l.length, q := fun j => (rd_T43 l j).f0, p := fun j => (rd_T43 l j).f1, s := fun j => (rd_T43 l j).f2 }

/-- all items may be -/
def Fine (I : Items) : Prop := I.m ≤ 64 ∧ ∀ j, j < I.m → 1 ≤ I.q j ∧ I.q j ≤ I.p j ∧ I.p j ≤ 1048576 ∧ 0 ≤ I.s j ∧ I.s j ≤ 1073741824
theorem It_fine {l : List S43} (h : vLL l = 0) : Fine (It l) := by
  obtain ⟨h1, h2⟩ := vLL_zero h
  refine ⟨h1, fun j hj => ?_⟩
  have hj' : j < l.length := hj
  simp only [It]
  rw [rd43 hj']
  exact h2 _ (List.getElem_mem hj')
theorem Fine.ok {I : Items} (h : Fine I) : I.Ok := fun j hj => by have := h.2 j hj; omega

/-- the budget that is left at a tick, behind the periods' begins; where the period ends -/
def lfA (I : Items) (pl : Int → Int) (t : Int) (j : Nat) : Int := if t < I.s j then 0 else I.q j - I.had pl j t
def enA (I : Items) (t : Int) (j : Nat) : Int := if t < I.s j then I.s j else I.en j t

/-- each tick goes to whom the rule picks -/
def Greedy (I : Items) (pl : List Int) (n : Nat) : Prop :=
  pl.length = n ∧ ∀ t : Nat, t < n → PickIs I.m (fun j => (j : Int)) (lfA I (rd pl) t) (enA I t) (rd pl t)

theorem cnt_congr {f g : Int → Int} {i a : Int} (n : Nat) (h : ∀ k : Nat, k < n → f (a + k) = g (a + k)) : cnt f i a n = cnt g i a n := by
  induction n with
  | zero => rfl
  | succ n ih => simp only [cnt]; rw [ih (fun k hk => h k (by omega)), h n (by omega)]
theorem cn_congr {f g : Int → Int} {i a b : Int} (h : ∀ t, a ≤ t → t < b → f t = g t) : cn f i a b = cn g i a b :=
  cnt_congr _ (fun k hk => h _ (by omega) (by omega))

theorem had_congr {I : Items} {f g : Int → Int} {j : Nat} {t : Int} (hs : 0 ≤ I.s j) (hst : I.s j ≤ t) (hp : 0 < I.p j) (h : ∀ u, 0 ≤ u → u < t → f u = g u) : I.had f j t = I.had g j t := by
  unfold Items.had
  have e := bg_form (I.s j) (I.p j) t
  have : 0 ≤ (t - I.s j) / I.p j * I.p j := Int.mul_nonneg (Int.ediv_nonneg (by omega) (by omega)) (by omega)
  exact cn_congr (fun u h1 h2 => h u (by omega) h2)

theorem lfA_congr {I : Items} (hI : Fine I) {f g : Int → Int} {j : Nat} (hj : j < I.m) {t : Int} (h : ∀ u, 0 ≤ u → u < t → f u = g u) : lfA I f t j = lfA I g t j := by
  obtain ⟨h1, h2, h3, h4, h5⟩ := hI.2 j hj
  unfold lfA
  split
  · rfl
  · rw [had_congr h4 (by omega) (by omega) h]

theorem rd_append_lt {pl : List Int} {r : Int} {t : Int} (h0 : 0 ≤ t) (h : t < pl.length) : rd (pl ++ [r]) t = rd pl t := by
  obtain ⟨n, rfl⟩ : ∃ n : Nat, t = n := ⟨t.toNat, by omega⟩
  rw [rdI (by simp; omega), rdI (by omega)]; exact List.getElem_append_left (by omega)
theorem rd_append_eq {pl : List Int} {r : Int} : rd (pl ++ [r]) (pl.length : Int) = r := by
  rw [rdI (by simp)]; simp

theorem Greedy.snoc {I : Items} (hI : Fine I) {pl : List Int} {n : Nat} {r : Int} (h : Greedy I pl n) (hr : PickIs I.m (fun j => (j : Int)) (lfA I (rd pl) n) (enA I n) r) : Greedy I (pl ++ [r]) (n + 1) := by
  obtain ⟨h1, h2⟩ := h
  refine ⟨by simp [h1], fun t ht => ?_⟩
  have hc : ∀ j, j < I.m → lfA I (rd (pl ++ [r])) t j = lfA I (rd pl) t j := fun j hj => lfA_congr hI hj (fun u hu hut => rd_append_lt hu (by omega))
  by_cases e : t = n
  · subst e
    have : rd (pl ++ [r]) (t : Int) = r := by have := rd_append_eq (pl := pl) (r := r); rwa [h1] at this
    rw [this]
    exact hr.congr (fun j hj => ⟨rfl, (hc j hj).symm, fun _ => rfl⟩)
  · rw [rd_append_lt (by omega) (by omega)]
    exact (h2 t (by omega)).congr (fun j hj => ⟨rfl, (hc j hj).symm, fun _ => rfl⟩)

/-- there is but one such plan -/
theorem Greedy.uniq {I : Items} (hI : Fine I) {pl pl' : List Int} {n : Nat} (h : Greedy I pl n) (h' : Greedy I pl' n) : pl = pl' := by
  obtain ⟨h1, h2⟩ := h
  obtain ⟨h1', h2'⟩ := h'
  have key : ∀ (m : Nat), m ≤ n → ∀ u : Int, 0 ≤ u → u < m → rd pl u = rd pl' u := by
    intro m
    induction m with
    | zero => intro _ u _ _; omega
    | succ m ih =>
      intro hm u hu hlt
      by_cases e : u = m
      · subst e
        have a := h2 m (by omega)
        have b := h2' m (by omega)
        exact (a.congr (fun j hj => ⟨rfl, lfA_congr hI hj (fun u hu hut => ih (by omega) u hu hut), fun _ => rfl⟩)).uniq b
      · exact ih (by omega) u hu (by omega)
  apply List.ext_getElem (by omega)
  intro i hi hi'
  have := key n (Nat.le_refl _) i (by omega) (by omega)
  rwa [rdI hi, rdI hi'] at this

theorem mod_split {p r : Int} (k : Int) (h0 : 0 ≤ r) (h1 : r < p) : (k * p + r) % p = r := by
  rw [Int.add_comm, Int.add_mul_emod_self_right, Int.emod_eq_of_lt h0 h1]

theorem bg_next {s p t : Int} (hp : 0 < p) : ((t + 1 - s) % p = 0 → bg s p t + p = t + 1) ∧ ((t + 1 - s) % p ≠ 0 → bg s p (t + 1) = bg s p t) := by
  obtain ⟨k, r, e, h0, h1⟩ := dsplit (t - s) hp
  unfold bg
  rw [show t + 1 - s = (t - s) + 1 by omega, e, mod_split k h0 h1]
  by_cases h : r + 1 < p
  · rw [show k * p + r + 1 = k * p + (r + 1) by omega, mod_split k (by omega) h]
    exact ⟨fun h => by omega, fun _ => by omega⟩
  · rw [show k * p + r + 1 = (k + 1) * p + 0 by rw [Int.add_mul]; omega, mod_split (k + 1) (Int.le_refl 0) hp]
    exact ⟨fun _ => by omega, fun h => absurd rfl h⟩

theorem bg_same {s p t : Int} (h : (t - s) % p = 0) : bg s p t = t := by unfold bg; omega

/-- a period begins: whole budget, its end -/
theorem A_new {I : Items} {pl : Int → Int} {t : Int} {j : Nat} (hst : I.s j ≤ t) (hm : (t - I.s j) % I.p j = 0) : lfA I pl t j = I.q j ∧ enA I t j = t + I.p j := by
  unfold lfA enA Items.had Items.en
  rw [if_neg (by omega), if_neg (by omega), bg_same hm, cn_self]
  exact ⟨by omega, rfl⟩

section
variable {I : Items} (hI : Fine I)
include hI

/-- the next tick: less one for who had it -/
theorem A_next {pl : Int → Int} {t : Int} {j : Nat} (hj : j < I.m) (h : ¬ (I.s j ≤ t + 1 ∧ (t + 1 - I.s j) % I.p j = 0)) :
    lfA I pl (t + 1) j = (if t < I.s j then 0 else lfA I pl t j - (if pl t = j then 1 else 0)) ∧ enA I (t + 1) j = enA I t j := by
  obtain ⟨h1, h2, h3, h4, h5⟩ := hI.2 j hj
  unfold lfA enA
  by_cases hs : t < I.s j
  · have : t + 1 < I.s j := by
      by_cases e : t + 1 = I.s j
      · exfalso; apply h; rw [e]; simp
      · omega
    rw [if_pos this, if_pos this, if_pos hs, if_pos hs]; exact ⟨rfl, rfl⟩
  · have hn := (bg_next (s := I.s j) (p := I.p j) (t := t) (by omega)).2 (fun e => h ⟨by omega, e⟩)
    have hb := bg_le (s := I.s j) (t := t) (p := I.p j) (by omega)
    rw [if_neg (show ¬ t + 1 < I.s j by omega), if_neg (show ¬ t + 1 < I.s j by omega), if_neg hs, if_neg hs, if_neg hs]
    unfold Items.had Items.en
    rw [hn, cn_succ _ _ hb]
    exact ⟨by omega, rfl⟩

theorem A_end {t : Int} {j : Nat} (hj : j < I.m) (hst : I.s j ≤ t + 1) (hm : (t + 1 - I.s j) % I.p j = 0) : enA I t j = t + 1 := by
  obtain ⟨h1, h2, h3, h4, h5⟩ := hI.2 j hj
  unfold enA Items.en
  by_cases hs : t < I.s j
  · rw [if_pos hs]; omega
  · rw [if_neg hs]; exact (bg_next (by omega)).1 hm

theorem A_ne {t : Int} {j : Nat} (hj : j < I.m) : enA I t j ≠ t := by
  obtain ⟨h1, h2, h3, h4, h5⟩ := hI.2 j hj
  unfold enA Items.en
  split
  · omega
  · have := lt_bg (s := I.s j) (t := t) (p := I.p j) (by omega); omega

theorem lfA_le {pl : Int → Int} {t : Int} {j : Nat} (hj : j < I.m) : lfA I pl t j ≤ I.q j := by
  obtain ⟨h1, h2, h3, h4, h5⟩ := hI.2 j hj
  unfold lfA Items.had
  split
  · omega
  · have := cn_nonneg pl j (bg (I.s j) (I.p j) t) t; omega
end

/-! ### the program's plan -/
theorem rd59_set {c : List S59} {i : Nat} (v : S59) (hi : i < c.length) (j : Nat) : rd_T59 (c.set i v) (j : Int) = if i = j then v else rd_T59 c (j : Int) := by
  unfold rd_T59
  rw [show ((j : Int)).toNat = j by omega]
  simp only [List.getD, List.getElem?_set]
  by_cases h : i = j
  · rw [if_pos h, if_pos h, if_pos hi]; rfl
  · rw [if_neg h, if_neg h]

def okB (I : Items) (pl : Int → Int) (t : Int) (j : Nat) (x : S59) : Prop := x.f0 = j ∧ (if I.s j ≤ t ∧ (t - I.s j) % I.p j = 0 then x.f2 = t else x.f1 = lfA I pl t j ∧ x.f2 = enA I t j)
def okA (I : Items) (pl : Int → Int) (t : Int) (j : Nat) (x : S59) : Prop := x.f0 = j ∧ x.f1 = lfA I pl t j ∧ x.f2 = enA I t j

set_option maxHeartbeats 4000000 in
theorem plan_loops (l : List S43) (hv : vLL l = 0) (n : Nat) (hn : n ≤ 4096) :
    ∀ (d t : Nat) (c : List S59) (pl : List Int), t + d = n → c.length = l.length → (∀ j, j < l.length → okB (It l) (rd pl) t j (rd_T59 c j)) → Greedy (It l) pl t →
      ∃ p, Evt (fun k => edf_Plan.l1 k (l.map cv) c pl n t) (p, none) ∧ Greedy (It l) p n := by
  have hI := It_fine hv
  have hm : l.length ≤ 64 := hI.1
  intro d
  induction d with
  | zero =>
    intro t c pl ht hc hb hg
    obtain rfl : t = n := by omega
    refine ⟨pl, Evt.succ ?_, hg⟩
    simp only [edf_Plan.l1]
    exact Evt.ifn (by omega) (Evt.pure fun _ => rfl)
  | succ d ih =>
    intro t c pl ht hc hb hg
    have hplen : pl.length = t := hg.1
    -- the periods' begins
    have inner : ∀ (e i : Nat) (c : List S59), i + e = l.length → c.length = l.length → (∀ j, j < i → okA (It l) (rd pl) t j (rd_T59 c j)) → (∀ j, i ≤ j → j < l.length → okB (It l) (rd pl) t j (rd_T59 c j)) →
        ∃ p, Evt (fun k => edf_Plan.l2 k (l.map cv) c pl t n t (l.length : Int) i) (p, none) ∧ Greedy (It l) p n := by
      intro e
      induction e with
      | zero =>
        intro i c hi hc ha _
        obtain rfl : i = l.length := by omega
        obtain ⟨r, hr, hp⟩ := Pick_evt c (by omega)
        rw [hc] at hp
        have hp' : PickIs (It l).m (fun j => (j : Int)) (lfA (It l) (rd pl) t) (enA (It l) t) r := hp.congr (fun j hj => ⟨(ha j hj).1, (ha j hj).2.1, fun _ => (ha j hj).2.2⟩)
        have hg' := hg.snoc hI hp'
        -- what stands at the next tick's head
        have hnext : ∀ c', c'.length = l.length → (∀ j, j < l.length → (rd_T59 c' j).f0 = (rd_T59 c j).f0 ∧ (rd_T59 c' j).f2 = (rd_T59 c j).f2 ∧ (rd_T59 c' j).f1 = (rd_T59 c j).f1 - (if r = j then 1 else 0)) →
            ∀ j, j < l.length → okB (It l) (rd (pl ++ [r])) ((t + 1 : Nat) : Int) j (rd_T59 c' j) := by
          intro c' _ hc' j hj
          have hjm : j < (It l).m := hj
          obtain ⟨f0, f2, f1⟩ := hc' j hj
          obtain ⟨g0, g1, g2⟩ := ha j hj
          have hlc : lfA (It l) (rd (pl ++ [r])) t j = lfA (It l) (rd pl) t j := lfA_congr hI hjm (fun u hu hut => rd_append_lt hu (by omega))
          have hrt : rd (pl ++ [r]) (t : Int) = r := by have := rd_append_eq (pl := pl) (r := r); rwa [hplen] at this
          refine ⟨by rw [f0, g0], ?_⟩
          rw [show ((t + 1 : Nat) : Int) = (t : Int) + 1 by omega]
          split
          · rename_i h
            rw [f2, g2]; exact A_end hI hjm h.1 h.2
          · rename_i h
            obtain ⟨n1, n2⟩ := A_next hI (pl := rd (pl ++ [r])) (t := t) hjm h
            rw [n1, n2, f1, f2, g1, g2, hlc, hrt]
            refine ⟨?_, rfl⟩
            by_cases hs : (t : Int) < (It l).s j
            · rw [if_pos hs]
              have z : lfA (It l) (rd pl) t j = 0 := by unfold lfA; rw [if_pos hs]
              rw [z]
              have : ¬ r = (j : Int) := by
                intro hrj
                rcases hp' with ⟨h', _⟩ | ⟨j', _, hj', hl', _⟩
                · omega
                · obtain rfl : j' = j := by omega
                  omega
              rw [if_neg this]; omega
            · rw [if_neg hs]
        have hrange := hp.range
        by_cases hr0 : 0 ≤ r
        · obtain ⟨r', rfl⟩ : ∃ r' : Nat, r = r' := ⟨r.toNat, by omega⟩
          have hrl : r' < l.length := by omega
          have hlf : 0 < (rd_T59 c r').f1 ∧ (rd_T59 c r').f1 ≤ 1048576 := by
            rcases hp with ⟨h', _⟩ | ⟨j', hj', e', hl', _⟩
            · omega
            · obtain rfl : r' = j' := by omega
              have hl' : 0 < (rd_T59 c r').f1 := hl'
              have := (ha r' hrl).2.1
              have := lfA_le hI (pl := rd pl) (t := t) (j := r') hrl
              have := (hI.2 r' hrl)
              omega
          have e2 : Hd (wrap64 ((rd_T59 c r').f1 - 1) = (rd_T59 c r').f1 - 1) := ⟨w64 (by omega) (by omega)⟩
          obtain ⟨p, hp2, hg2⟩ := ih (t + 1) (c.set r' ⟨(rd_T59 c r').f0, wrap64 ((rd_T59 c r').f1 - 1), (rd_T59 c r').f2⟩) (pl ++ [(r' : Int)]) (by omega) (by simp [hc])
            (hnext _ (by simp [hc]) (fun j hj => by
              rw [rd59_set _ (by omega), e2.out]
              by_cases h : r' = j
              · subst h; simp
              · rw [if_neg h, if_neg (by omega)]; simp)) hg'
          refine ⟨p, Evt.succ ?_, hg2⟩
          simp only [edf_Plan.l2]
          rw [w1 t (by omega)]
          refine Evt.ifn (by omega) (Evt.bind hr (Evt.ifp (by omega) (Evt.ifp (by omega) (Evt.ifp (by omega) (Evt.ifp (by omega) ?_)))))
          rw [show ((r' : Int)).toNat = r' by omega]
          exact hp2
        · obtain ⟨p, hp2, hg2⟩ := ih (t + 1) c (pl ++ [r]) (by omega) hc (hnext c hc (fun j hj => ⟨rfl, rfl, by rw [if_neg (by omega)]; omega⟩)) hg'
          refine ⟨p, Evt.succ ?_, hg2⟩
          simp only [edf_Plan.l2]
          rw [w1 t (by omega)]
          exact Evt.ifn (by omega) (Evt.bind hr (Evt.ifn (by omega) (Evt.ifp (by omega) hp2)))
      | succ e ihe =>
        intro i c hi hc ha hbb
        have hil : i < l.length := by omega
        have him : i < (It l).m := hil
        obtain ⟨b0, b1⟩ := hbb i (Nat.le_refl _) hil
        have hIi := hI.2 i him
        have hx : rd_T55 (l.map cv) (i : Int) = ⟨(It l).q i, (It l).p i, (It l).s i⟩ := by rw [rd55 hil]; rfl
        by_cases ht2 : (rd_T59 c i).f2 = t
        · have hren : (It l).s i ≤ t ∧ (t - (It l).s i) % (It l).p i = 0 := by
            split at b1
            · assumption
            · have := A_ne hI (t := t) him; omega
          have e2 : Hd (wrap64 ((t : Int) + (It l).p i) = t + (It l).p i) := ⟨w64 (by omega) (by omega)⟩
          obtain ⟨n1, n2⟩ := A_new (I := It l) (pl := rd pl) hren.1 hren.2
          obtain ⟨p, hp, hg2⟩ := ihe (i + 1) ((c.set i ⟨(rd_T59 c i).f0, (It l).q i, (rd_T59 c i).f2⟩).set i ⟨(rd_T59 c i).f0, (It l).q i, t + (It l).p i⟩) (by omega) (by simp [hc])
            (fun j hj => by
              rw [rd59_set _ (by simp; omega)]
              by_cases h : i = j
              · subst h; rw [if_pos rfl]; exact ⟨b0, n1.symm, n2.symm⟩
              · rw [if_neg h, rd59_set _ (by omega), if_neg h]; exact ha j (by omega))
            (fun j hj hjl => by
              rw [rd59_set _ (by simp; omega), if_neg (by omega), rd59_set _ (by omega), if_neg (by omega)]; exact hbb j (by omega) hjl)
          refine ⟨p, Evt.succ ?_, hg2⟩
          simp only [edf_Plan.l2, Option.bind_some]
          rw [w1 i (by omega), hx]
          simp only []
          rw [e2.out, show ((i : Int)).toNat = i by omega, rd59_set _ (by omega), if_pos rfl]
          exact Evt.ifp (by omega) (Evt.ifp (by omega) (Evt.ifp (by omega) (Evt.ifp ht2 (Evt.ifp (by simp; omega) hp))))
        · have hA : okA (It l) (rd pl) t i (rd_T59 c i) := by
            refine ⟨b0, ?_⟩
            split at b1
            · exact absurd b1 ht2
            · exact b1
          obtain ⟨p, hp, hg2⟩ := ihe (i + 1) c (by omega) hc
            (fun j hj => by
              by_cases h : j = i
              · rw [h]; exact hA
              · exact ha j (by omega))
            (fun j hj hjl => hbb j (by omega) hjl)
          refine ⟨p, Evt.succ ?_, hg2⟩
          simp only [edf_Plan.l2]
          rw [w1 i (by omega)]
          exact Evt.ifp (by omega) (Evt.ifp (by omega) (Evt.ifp (by omega) (Evt.ifn ht2 hp)))
    obtain ⟨p, hp, hg2⟩ := inner l.length 0 c (by omega) hc (fun j hj => by omega) (fun j _ hj => hb j hj)
    refine ⟨p, Evt.succ ?_, hg2⟩
    simp only [edf_Plan.l1]
    refine Evt.ifp (by omega) ?_
    rw [hc]; exact hp

/-- what Plan answers -/
def PlanIs (l : List S43) (n : Int) (p : List Int) (e : Int) : Prop :=
  ((n < 0 ∨ n > 4096) ∧ p = [] ∧ e = 1) ∨ (¬ (n < 0 ∨ n > 4096) ∧ vLL l ≠ 0 ∧ p = [] ∧ e = vLL l) ∨ (¬ (n < 0 ∨ n > 4096) ∧ vLL l = 0 ∧ e = 0 ∧ Greedy (It l) p n.toNat)

theorem PlanIs.uniq {l : List S43} {n : Int} {p p' : List Int} {e e' : Int} (h : PlanIs l n p e) (h' : PlanIs l n p' e') : p = p' ∧ e = e' := by
  rcases h with ⟨a, rfl, rfl⟩ | ⟨a, b, rfl, rfl⟩ | ⟨a, b, rfl, c⟩ <;> rcases h' with ⟨a', rfl, rfl⟩ | ⟨a', b', rfl, rfl⟩ | ⟨a', b', rfl, c'⟩
  · exact ⟨rfl, rfl⟩
  · exact absurd a a'
  · exact absurd a a'
  · exact absurd a' a
  · exact ⟨rfl, rfl⟩
  · exact absurd b' b
  · exact absurd a' a
  · exact absurd b b'
  · exact ⟨c.uniq (It_fine b) c', rfl⟩

set_option maxHeartbeats 1000000 in
theorem Plan_evt (l : List S43) (hl : l.length ≤ 140737488351232) (n : Int) : ∃ p e, Evt (fun k => edf_Plan.f k (l.map cv) n) (p, opt e) ∧ PlanIs l n p e := by
  have bad : ∀ b, b = true → Evt (fun k => edf_Plan.j0 k (l.map cv) n b) ([], opt 1) := by
    intro b hb; refine Evt.succ ?_; simp only [edf_Plan.j0]; exact Evt.ifp hb (Evt.pure fun _ => rfl)
  unfold edf_Plan.f
  by_cases h1 : n < 0
  · exact ⟨[], 1, Evt.ifp h1 (bad _ rfl), .inl ⟨.inl h1, rfl, rfl⟩⟩
  · by_cases h2 : n > 4096
    · exact ⟨[], 1, Evt.ifn h1 (bad _ (decide_eq_true h2)), .inl ⟨.inr h2, rfl, rfl⟩⟩
    · by_cases hv : vLL l = 0
      · obtain ⟨n', rfl⟩ : ∃ n' : Nat, n = n' := ⟨n.toNat, by omega⟩
        have hI := It_fine hv
        have hm : l.length ≤ 64 := hI.1
        have first : ∀ (d i : Nat) (c : List S59), i + d = l.length → c.length = l.length → (∀ j, j < i → rd_T59 c (j : Int) = ⟨j, 0, (It l).s j⟩) →
            ∃ p, Evt (fun k => edf_Plan.l0 k (l.map cv) n' c (l.map cv) (l.length : Int) i) (p, none) ∧ Greedy (It l) p n' := by
          intro d
          induction d with
          | zero =>
            intro i c hi hc ha
            obtain rfl : i = l.length := by omega
            obtain ⟨p, hp, hg⟩ := plan_loops l hv n' (by omega) n' 0 c [] (by omega) hc (fun j hj => by
              have := hI.2 j hj
              rw [ha j hj]
              refine ⟨rfl, ?_⟩
              split
              · rename_i h; have := h.1; show (It l).s j = _; omega
              · rename_i h
                have : ((0 : Nat) : Int) < (It l).s j := by
                  by_cases h' : (It l).s j ≤ ((0 : Nat) : Int)
                  · exfalso; apply h; refine ⟨h', ?_⟩
                    rw [show (It l).s j = 0 by omega]; simp
                  · omega
                unfold lfA enA; rw [if_pos this, if_pos this]; exact ⟨rfl, rfl⟩) ⟨rfl, fun t ht => by omega⟩
            refine ⟨p, Evt.succ ?_, hg⟩
            simp only [edf_Plan.l0]
            exact Evt.ifn (by omega) hp
          | succ d ih =>
            intro i c hi hc ha
            have hil : i < l.length := by omega
            obtain ⟨p, hp, hg⟩ := ih (i + 1) (c.set i ⟨i, 0, (It l).s i⟩) (by omega) (by simp [hc]) (fun j hj => by
              rw [rd59_set _ (by omega)]
              by_cases h : i = j
              · subst h; rw [if_pos rfl]
              · rw [if_neg h]; exact ha j (by omega))
            refine ⟨p, Evt.succ ?_, hg⟩
            simp only [edf_Plan.l0]
            rw [w1 i (by omega), rd55 hil, show ((i : Int)).toNat = i by omega]
            exact Evt.ifp (by omega) (Evt.ifp (by omega) (Evt.ifp (by simp; omega) (Evt.ifp (by omega) hp)))
        obtain ⟨p, hp, hg⟩ := first l.length 0 (List.replicate l.length z59) (by omega) (by simp) (fun j hj => by omega)
        refine ⟨p, 0, Evt.ifn h1 (Evt.succ ?_), .inr (.inr ⟨by omega, hv, rfl, hg⟩)⟩
        simp only [edf_Plan.j0]
        have hV := edf_Valid_evt l hl
        rw [hv, opt_zero] at hV
        refine Evt.ifn (by simpa using h2) (Evt.bind hV (Evt.ifp rfl ?_))
        rw [List.length_map]
        exact Evt.ifp (by omega) (Evt.ifp (by omega) hp)
      · refine ⟨[], vLL l, Evt.ifn h1 (Evt.succ ?_), .inr (.inl ⟨by omega, hv, rfl, rfl⟩)⟩
        simp only [edf_Plan.j0]
        have hV := edf_Valid_evt l hl
        rw [opt_pos hv] at hV
        rw [opt_pos hv]
        exact Evt.ifn (by simpa using h2) (Evt.bind hV (Evt.ifn (by simp) (Evt.pure fun _ => rfl)))
end Go.Proofs.YthhaikkicabplaaR.Pure
