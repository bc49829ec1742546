/- Priorities: what fits at the last place may stand there; priorities are found just where some fit. No conditions. -/
import Derived.Test.YtffckkjaeekanaaBstA
namespace Go.Proofs.Ytffckkjaeekanaa.Pure
open Go Go.RowKit Tithe Go.Proofs.Ytffckkjaeekanaa.B Go.Proofs.YtffckkjaeekanaaW.PrintWords Go.Proofs.YtffckkjaeekanaaW.PrintLast Go.Proofs.YtffckkjaeekanaaW.PrintMore
/-- in time behind all others that have no place -/
def fit (l : List S39) (m : List S48) (has : Nat → Bool) (i : Nat) : Prop := ∃ t : Int, 1 ≤ t ∧ t ≤ (rd_T39 l (i : Int)).f2 ∧ (rd_T39 l (i : Int)).f1 + Sq l has i t ≤ dn (m.map pr) t
theorem sm_le {g g' : Nat → Int} : ∀ {n : Nat}, (∀ k, k < n → g k ≤ g' k) → sm n g ≤ sm n g'
  | 0, _ => Int.le_refl _
  | n + 1, h => by
    show sm n g + g n ≤ sm n g' + g' n
    have := sm_le (fun k hk => h k (by omega) : ∀ k, k < n → g k ≤ g' k)
    have := h n (by omega)
    omega
theorem Sq_mono {l : List S39} (hok : ∀ x ∈ l, okp x) {has has' : Nat → Bool} (h : ∀ k, k < l.length → has' k = false → has k = false) (i : Nat) {t : Int} (h0 : 0 ≤ t) (h1 : t ≤ 2147483648) : Sq l has' i t ≤ Sq l has i t := by
  refine sm_le fun k hk => ?_
  have hb := (rq_bounds (okp_rd hok hk) h0 h1).1
  by_cases hc : k ≠ i ∧ has' k = false
  · rw [if_pos hc, if_pos ⟨hc.1, h k hk hc.2⟩]; omega
  · rw [if_neg hc]
    by_cases hd : k ≠ i ∧ has k = false
    · rw [if_pos hd]; exact hb
    · rw [if_neg hd]; omega
theorem fit_mono {l : List S39} {m : List S48} (hok : ∀ x ∈ l, okp x) {has has' : Nat → Bool} (h : ∀ k, k < l.length → has' k = false → has k = false) {i : Nat} (hi : i < l.length) (hf : fit l m has i) : fit l m has' i := by
  obtain ⟨t, t0, t1, t2⟩ := hf
  obtain ⟨_, a2, _, _, _, a4, _⟩ := okp_rd hok hi
  have := Sq_mono hok h i (t := t) (by omega) (by omega)
  exact ⟨t, t0, t1, by omega⟩
/-- all that have no place can be given one -/
def F (l : List S39) (m : List S48) : Nat → (Nat → Bool) → Prop
  | 0, _ => True
  | d + 1, has => ∃ i, i < l.length ∧ has i = false ∧ fit l m has i ∧ F l m d (setB has i)
theorem cnt_all {has : Nat → Bool} : ∀ {n : Nat}, (∀ k, k < n → has k = true) → cnt has n = 0
  | 0, _ => rfl
  | n + 1, h => by
    show cnt has n + (if has n = true then 0 else 1) = 0
    rw [if_pos (h n (by omega)), cnt_all (n := n) (fun k hk => h k (by omega))]
theorem setB_ne {has : Nat → Bool} {i k : Nat} (h : setB has i k = false) : k ≠ i ∧ has k = false := by
  unfold setB at h
  by_cases e : k = i
  · rw [if_pos e] at h; simp at h
  · rw [if_neg e] at h; exact ⟨e, h⟩
theorem setB_mk {has : Nat → Bool} {i k : Nat} (h : k ≠ i) (h2 : has k = false) : setB has i k = false := by
  unfold setB; rw [if_neg h]; exact h2
theorem F_sub {l : List S39} {m : List S48} (hok : ∀ x ∈ l, okp x) : ∀ (d : Nat) (has : Nat → Bool), cnt has l.length = d → F l m d has → ∀ (d' : Nat) (has' : Nat → Bool), cnt has' l.length = d' → (∀ k, k < l.length → has' k = false → has k = false) → F l m d' has' := by
  intro d
  induction d with
  | zero =>
    intro has hc _ d' has' hc' hs
    have h0 : cnt has' l.length = 0 := cnt_all fun k hk => by
      have := cnt_zero hc k hk
      cases h : has' k with
      | true => rfl
      | false => rw [hs k hk h] at this; simp at this
    rw [h0] at hc'
    subst hc'
    trivial
  | succ d ih =>
    intro has hc hF d' has' hc' hs
    obtain ⟨i, hi, hh, hf, hF⟩ := hF
    have hcs : cnt (setB has i) l.length = d := by have := (cnt_set hh (n := l.length)).1 hi; omega
    cases hi' : has' i with
    | true =>
      refine ih (setB has i) hcs hF d' has' hc' fun k hk h => setB_mk (fun e => ?_) (hs k hk h)
      rw [e, hi'] at h; simp at h
    | false =>
      have hcs' := (cnt_set hi' (n := l.length)).1 hi
      obtain ⟨e, rfl⟩ : ∃ e, d' = e + 1 := ⟨cnt (setB has' i) l.length, by omega⟩
      refine ⟨i, hi, hi', fit_mono hok hs hi hf, ih (setB has i) hcs hF e (setB has' i) (by omega) fun k hk h => ?_⟩
      obtain ⟨h1, h2⟩ := setB_ne h
      exact setB_mk h1 (hs k hk h2)
theorem F_congr {l : List S39} {m : List S48} : ∀ (d : Nat) (has has' : Nat → Bool), (∀ k, k < l.length → has k = has' k) → F l m d has → F l m d has'
  | 0, _, _, _, _ => trivial
  | d + 1, has, has', h, ⟨i, hi, hh, ⟨t, t0, t1, t2⟩, hF⟩ => by
    refine ⟨i, hi, (h i hi).symm.trans hh, ⟨t, t0, t1, ?_⟩, F_congr d (setB has i) (setB has' i) (fun k hk => ?_) hF⟩
    · have e : Sq l has' i t = Sq l has i t := sm_congr fun k hk => by rw [h k hk]
      rw [e]; exact t2
    · unfold setB; rw [h k hk]
/-! rows with places -/
def outR (l : List S39) (ps : Nat → Int) : List S39 := outA l ps
theorem outA_len' (l : List S39) (ps : Nat → Int) : (outA l ps).length = l.length := by simp [outA]
theorem outA_rd {l : List S39} {ps : Nat → Int} {k : Nat} (hk : k < l.length) : rd_T39 (outA l ps) (k : Int) = prio (rd_T39 l (k : Int)) (ps k) := by
  rw [rd_get (by rw [outA_len']; exact hk)]; simp [outA]
theorem outA_congr {l : List S39} {ps ps' : Nat → Int} (h : ∀ k, k < l.length → ps k = ps' k) : outA l ps = outA l ps' := by
  unfold outA
  apply List.map_congr_left
  intro k hk
  rw [h k (List.mem_range.1 hk)]
theorem outA_self (l : List S39) : outA l (fun i => (rd_T39 l (i : Int)).f3) = l := by
  apply List.ext_getElem
  · exact outA_len' _ _
  · intro i h1 h2
    have := outA_rd (l := l) (ps := fun i => (rd_T39 l (i : Int)).f3) h2
    rw [rd_get h1] at this
    rw [this]
    show rd_T39 l (i : Int) = _
    exact rd_get h2
theorem outA_ok {l : List S39} (hok : ∀ x ∈ l, okp x) {ps : Nat → Int} (h : ∀ k, k < l.length → 0 ≤ ps k ∧ ps k ≤ 31) : ∀ x ∈ outA l ps, okp x := by
  intro x hx
  obtain ⟨k, hk, rfl⟩ := List.mem_map.1 hx
  have hk := List.mem_range.1 hk
  exact okp_prio (okp_rd hok hk) (h k hk).1 (h k hk).2
theorem fc_outA {l : List S39} {m : List S48} (h : fc l m = 0) {ps : Nat → Int} (hp : ∀ k, k < l.length → 0 ≤ ps k ∧ ps k ≤ 31) : fc (outA l ps) m = 0 := by
  obtain ⟨h8, hok⟩ := fc_ok h
  unfold fc at *
  rw [if_pos (vcode_ok.2 ⟨h8, hok⟩)] at h
  rw [if_pos (vcode_ok.2 ⟨by rw [outA_len']; exact h8, outA_ok hok hp⟩)]
  exact h
/-- each place once -/
structure Bij (n : Nat) (ps : Nat → Int) : Prop where
  r : ∀ i, i < n → 0 ≤ ps i ∧ ps i < (n : Int)
  inj : ∀ i k, i < n → k < n → i ≠ k → ps i ≠ ps k
  sur : ∀ u : Nat, u < n → ∃ i, i < n ∧ ps i = (u : Int)
theorem out_lev {l : List S39} {ps : Nat → Int} (hb : Bij l.length ps) {i : Nat} (hi : i < l.length) (t : Int) : lev (outA l ps) i t = (rd_T39 l (i : Int)).f1 + sm l.length (fun k => if k ≠ i ∧ ps k < ps i then rq (rd_T39 l (k : Int)) t else 0) := by
  rw [lev_sum (by rw [outA_len']; exact hi), outA_rd hi, outA_len']
  show (rd_T39 l (i : Int)).f1 + _ = _
  congr 1
  refine sm_congr fun k hk => ?_
  rw [outA_rd hk, rq_prio]
  have e : ab (outA l ps) k i = decide (k ≠ i ∧ ps k < ps i) := by
    unfold ab
    rw [outA_rd hk, outA_rd hi]
    apply decide_eq_decide.2
    show ps k < ps i ∨ ps k = ps i ∧ k < i ↔ _
    by_cases e : k = i
    · subst e; simp
    · have := hb.inj k i hk hi e
      constructor
      · rintro (h | h)
        · exact ⟨e, h⟩
        · exact absurd h.1 this
      · intro h; exact .inl h.2
  rw [e]
  by_cases hc : k ≠ i ∧ ps k < ps i
  · rw [if_pos hc]; simp [hc]
  · rw [if_neg hc]; simp [hc]
theorem out_f2 {l : List S39} {ps : Nat → Int} {i : Nat} (hi : i < l.length) : (rd_T39 (outA l ps) (i : Int)).f2 = (rd_T39 l (i : Int)).f2 := by rw [outA_rd hi]; rfl
/-- each place once, and all is in time -/
def Good (l : List S39) (m : List S48) (ps : Nat → Int) : Prop := Bij l.length ps ∧ ∀ i : Nat, i < l.length → fitAt (outA l ps) m i
theorem F_of_good {l : List S39} {m : List S48} {ps : Nat → Int} (h : Good l m ps) : F l m l.length (fun _ => false) := by
  obtain ⟨hb, hf⟩ := h
  have key : ∀ v : Nat, v ≤ l.length → F l m v (fun k => decide ((v : Int) ≤ ps k)) := by
    intro v
    induction v with
    | zero => intro _; trivial
    | succ v ih =>
      intro hv
      obtain ⟨i, hi, he⟩ := hb.sur v (by omega)
      refine ⟨i, hi, decide_eq_false (by rw [he]; omega), ?_, F_congr v _ _ (fun k hk => ?_) (ih (by omega))⟩
      · obtain ⟨t, t0, t1, t2⟩ := hf i hi
        rw [out_f2 hi] at t1
        rw [out_lev hb hi] at t2
        refine ⟨t, t0, t1, ?_⟩
        have e : Sq l (fun k => decide (((v + 1 : Nat) : Int) ≤ ps k)) i t = sm l.length (fun k => if k ≠ i ∧ ps k < ps i then rq (rd_T39 l (k : Int)) t else 0) := by
          refine sm_congr fun k hk => ?_
          by_cases hk2 : k = i
          · subst hk2; simp
          · have hne := hb.inj k i hk hi hk2
            by_cases hl : ps k < ps i
            · rw [if_pos ⟨hk2, decide_eq_false (by omega)⟩, if_pos ⟨hk2, hl⟩]
            · rw [if_neg (fun h => by have := of_decide_eq_false h.2; omega), if_neg (fun h => hl h.2)]
        rw [e]; exact t2
      · unfold setB
        by_cases e : k = i
        · rw [if_pos e, e]; exact decide_eq_true (by omega)
        · rw [if_neg e]
          have := hb.inj k i hk hi e
          apply decide_eq_decide.2
          omega
  exact F_congr _ _ _ (fun k hk => decide_eq_false (by have := (hb.r k hk).2; omega)) (key l.length (Nat.le_refl _))
/-! Audsley's search -/
theorem time_fit {l : List S39} {m : List S48} (h8 : l.length ≤ 8) (hok : ∀ x ∈ l, okp x) (hm8 : m.length ≤ 8) (hm : ∀ x ∈ m, okr (pr x)) (has : Nat → Bool) {i : Nat} (hi : i < l.length) :
    ∃ t1 : Int × Bool, Evt (fun k => response_time.f k (tryN l has i l.length) ((atN l has i l.length : Nat) : Int) m) t1 ∧ (t1.2 = true ↔ fit l m has i) := by
  obtain ⟨a1, _⟩ := tryN_at l has i l.length
  obtain ⟨a1, a3⟩ := a1 hi
  have hl1 := tryN_len' l has i l.length
  have hok1 := tryN_ok hok has i l.length (Nat.le_refl _)
  have hf2 : (rd_T39 (tryN l has i l.length) ((atN l has i l.length : Nat) : Int)).f2 = (rd_T39 l (i : Int)).f2 := by rw [a3]; rfl
  have hla := fun t => try_lev (l := l) (has := has) hi t
  rcases time_ok (l := tryN l has i l.length) (m := m) (by omega) hok1 hm8 hm a1 with ⟨s, p1, p2, p3, p4, _⟩ | ⟨p1, p2⟩
  · exact ⟨_, p1, fun _ => ⟨s, p2, by rw [← hf2]; exact p3, by rw [← hla]; exact p4⟩, fun _ => rfl⟩
  · refine ⟨_, p1, fun h => by simp at h, ?_⟩
    rintro ⟨s, s1, s2, s3⟩
    have := p2 s s1 (by rw [hf2]; exact s2)
    rw [hla] at this
    omega
theorem find_fit {l : List S39} {m : List S48} (h8 : l.length ≤ 8) (hok : ∀ x ∈ l, okp x) (hm8 : m.length ≤ 8) (hm : ∀ x ∈ m, okr (pr x)) (has : Nat → Bool) :
    ∀ (d i : Nat), i + d = l.length → ∃ r : Option Nat, Evt (fun k => findA k l m has d i) r ∧ (∀ j, r = some j → j < l.length ∧ has j = false ∧ fit l m has j) ∧ (r = none → ∀ j, i ≤ j → j < l.length → has j = false → ¬ fit l m has j) := by
  intro d
  induction d with
  | zero => intro i hi; exact ⟨none, Evt.pure fun _ => rfl, by simp, fun _ j h1 h2 => by omega⟩
  | succ d ih =>
    intro i hi
    obtain ⟨r, y1, y2, y3⟩ := ih (i + 1) (by omega)
    by_cases hh : has i = true
    · refine ⟨r, ?_, y2, fun hr j h1 h2 h3 => ?_⟩
      · unfold findA; exact Evt.ifp hh y1
      · by_cases e : j = i
        · rw [e, hh] at h3; simp at h3
        · exact y3 hr j (by omega) h2 h3
    · have hf : has i = false := by cases h : has i with | true => exact absurd h hh | false => rfl
      obtain ⟨t1, p1, p2⟩ := time_fit h8 hok hm8 hm has (i := i) (by omega)
      by_cases hb : t1.2 = true
      · refine ⟨some i, ?_, fun j hj => by obtain rfl := Option.some.inj hj; exact ⟨by omega, hf, p2.1 hb⟩, by simp⟩
        unfold findA; exact Evt.ifn hh (Evt.bind p1 (Evt.ifp hb (Evt.pure fun _ => rfl)))
      · refine ⟨r, ?_, y2, fun hr j h1 h2 h3 => ?_⟩
        · unfold findA; exact Evt.ifn hh (Evt.bind p1 (Evt.ifn hb y1))
        · by_cases e : j = i
          · subst e; exact fun h => hb (p2.2 h)
          · exact y3 hr j (by omega) h2 h3
/-- what a search that goes through leaves -/
structure Pst (l : List S39) (m : List S48) (v : Nat) (has : Nat → Bool) (ps qs : Nat → Int) : Prop where
  old : ∀ k, k < l.length → has k = true → qs k = ps k
  new : ∀ k, k < l.length → has k = false → 0 ≤ qs k ∧ qs k < (v : Int)
  inj : ∀ i k, i < l.length → k < l.length → has i = false → has k = false → i ≠ k → qs i ≠ qs k
  sur : ∀ u : Nat, u < v → ∃ i, i < l.length ∧ has i = false ∧ qs i = (u : Int)
  fits : ∀ i, i < l.length → has i = false → ∃ t : Int, 1 ≤ t ∧ t ≤ (rd_T39 l (i : Int)).f2 ∧ (rd_T39 l (i : Int)).f1 + sm l.length (fun q => if q ≠ i ∧ has q = false ∧ qs q < qs i then rq (rd_T39 l (q : Int)) t else 0) ≤ dn (m.map pr) t
theorem lev_best {l : List S39} {m : List S48} (h8 : l.length ≤ 8) (hok : ∀ x ∈ l, okp x) (hm8 : m.length ≤ 8) (hm : ∀ x ∈ m, okr (pr x)) :
    ∀ (v : Nat) (x : Au), cnt x.has l.length = v → ∃ r : Option Au, Evt (fun k => levA k l m v x) r ∧ (r = none → ¬ F l m v x.has) ∧ (∀ b, r = some b → Pst l m v x.has x.ps b.ps) := by
  intro v
  induction v with
  | zero =>
    intro x hc
    refine ⟨some x, Evt.pure fun _ => rfl, by simp, fun b hb => ?_⟩
    obtain rfl := Option.some.inj hb
    have hz := cnt_zero hc
    exact ⟨fun _ _ _ => rfl, fun k hk h => by rw [hz k hk] at h; simp at h, fun i k hi hk h => by rw [hz i hi] at h; simp at h, fun u hu => absurd hu (by omega), fun k hk h => by rw [hz k hk] at h; simp at h⟩
  | succ v ih =>
    intro x hc
    obtain ⟨r, y1, y2, y3⟩ := find_fit h8 hok hm8 hm x.has l.length 0 (by omega)
    cases r with
    | none =>
      refine ⟨none, ?_, fun _ hF => ?_, by simp⟩
      · unfold levA; exact Evt.bind y1 (Evt.pure fun _ => rfl)
      · obtain ⟨i, hi, hh, hf, _⟩ := hF
        exact y3 rfl i (Nat.zero_le _) hi hh hf
    | some i =>
      obtain ⟨hi, hh, hf⟩ := y2 i rfl
      have hcs : cnt (setB x.has i) l.length = v := by have := (cnt_set hh (n := l.length)).1 hi; omega
      obtain ⟨r, z1, z2, z3⟩ := ih ⟨setP x.ps i (v : Int), setB x.has i⟩ hcs
      refine ⟨r, ?_, fun hr hF => z2 hr (F_sub hok (v + 1) x.has hc hF v (setB x.has i) hcs fun k _ h => (setB_ne h).2), fun b hb => ?_⟩
      · unfold levA; exact Evt.bind y1 z1
      · have P := z3 b hb
        have hsi : setB x.has i i = true := by simp [setB]
        have hbi : b.ps i = (v : Int) := by
          have := P.old i hi hsi
          rw [this]
          simp [setP]
        have hold : ∀ k, k < l.length → k ≠ i → x.has k = true → b.ps k = x.ps k := by
          intro k hk hne h
          have := P.old k hk (by show setB x.has i k = true; unfold setB; rw [if_neg hne]; exact h)
          rw [this]
          show setP x.ps i (v : Int) k = _
          unfold setP; rw [if_neg hne]
        have hnew : ∀ k, k < l.length → k ≠ i → x.has k = false → 0 ≤ b.ps k ∧ b.ps k < (v : Int) := fun k hk hne h => P.new k hk (setB_mk hne h)
        refine ⟨fun k hk h => hold k hk (fun e => by rw [e, hh] at h; simp at h) h, fun k hk h => ?_, fun j k hj hk h1 h2 hne => ?_, fun u hu => ?_, fun j hj h => ?_⟩
        · by_cases e : k = i
          · rw [e, hbi]; omega
          · have := hnew k hk e h; omega
        · by_cases e : j = i
          · subst e
            have := hnew k hk (Ne.symm hne) h2
            rw [hbi]; omega
          · by_cases e2 : k = i
            · subst e2
              have := hnew j hj e h1
              rw [hbi]; omega
            · exact P.inj j k hj hk (setB_mk e h1) (setB_mk e2 h2) hne
        · by_cases e : u = v
          · exact ⟨i, hi, hh, by rw [hbi, e]⟩
          · obtain ⟨k, hk, h1, h2⟩ := P.sur u (by omega)
            exact ⟨k, hk, (setB_ne h1).2, h2⟩
        · by_cases e : j = i
          · subst e
            obtain ⟨t, t0, t1, t2⟩ := hf
            refine ⟨t, t0, t1, ?_⟩
            have es : sm l.length (fun q => if q ≠ j ∧ x.has q = false ∧ b.ps q < b.ps j then rq (rd_T39 l (q : Int)) t else 0) = Sq l x.has j t := by
              refine sm_congr fun q hq => ?_
              by_cases hc2 : q ≠ j ∧ x.has q = false
              · have := hnew q hq hc2.1 hc2.2
                rw [if_pos hc2, if_pos ⟨hc2.1, hc2.2, by rw [hbi]; omega⟩]
              · rw [if_neg hc2, if_neg (fun h => hc2 ⟨h.1, h.2.1⟩)]
            rw [es]; exact t2
          · obtain ⟨t, t0, t1, t2⟩ := P.fits j hj (setB_mk e h)
            refine ⟨t, t0, t1, ?_⟩
            have es : sm l.length (fun q => if q ≠ j ∧ x.has q = false ∧ b.ps q < b.ps j then rq (rd_T39 l (q : Int)) t else 0) = sm l.length (fun q => if q ≠ j ∧ setB x.has i q = false ∧ b.ps q < b.ps j then rq (rd_T39 l (q : Int)) t else 0) := by
              refine sm_congr fun q hq => ?_
              by_cases eq : q = i
              · subst eq
                have := hnew j hj e h
                rw [if_neg (fun h => by have := h.2.2; rw [hbi] at this; omega), if_neg (fun h => by have := h.2.1; rw [hsi] at this; simp at this)]
              · have : setB x.has i q = x.has q := if_neg eq
                rw [this]
            rw [es]; exact t2
theorem cnt_none' (n : Nat) : cnt (fun _ => false) n = n := cnt_none n
/-- the search from nothing: priorities with which all is in time, or there are none -/
theorem best_none {l : List S39} {m : List S48} (h8 : l.length ≤ 8) (hok : ∀ x ∈ l, okp x) (hm8 : m.length ≤ 8) (hm : ∀ x ∈ m, okr (pr x)) :
    ∃ r : Option Au, Evt (fun k => levA k l m l.length (au0 l)) r ∧ (r = none → ∀ ps, ¬ Good l m ps) ∧ (∀ b, r = some b → Good l m b.ps) := by
  obtain ⟨r, y1, y2, y3⟩ := lev_best h8 hok hm8 hm l.length (au0 l) (cnt_none _)
  refine ⟨r, y1, fun hr ps hg => y2 hr (F_of_good hg), fun b hb => ?_⟩
  have P := y3 b hb
  have B : Bij l.length b.ps := ⟨fun i hi => P.new i hi rfl, fun i k hi hk hne => P.inj i k hi hk rfl rfl hne, fun u hu => by obtain ⟨i, hi, _, he⟩ := P.sur u hu; exact ⟨i, hi, he⟩⟩
  refine ⟨B, fun i hi => ?_⟩
  obtain ⟨t, t0, t1, t2⟩ := P.fits i hi rfl
  refine ⟨t, t0, by rw [out_f2 hi]; exact t1, ?_⟩
  rw [out_lev B hi]
  have es : sm l.length (fun q => if q ≠ i ∧ (au0 l).has q = false ∧ b.ps q < b.ps i then rq (rd_T39 l (q : Int)) t else 0) = sm l.length (fun k => if k ≠ i ∧ b.ps k < b.ps i then rq (rd_T39 l (k : Int)) t else 0) := by
    refine sm_congr fun q _ => ?_
    have : (au0 l).has q = false := rfl
    simp only [this, true_and]
  rw [es] at t2
  exact t2
end Go.Proofs.Ytffckkjaeekanaa.Pure
