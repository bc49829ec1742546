/- Audsley: the program's and the document's way find the same entries. No conditions. -/
import Derived.Test.YtadkgcjmacccnaaRRes
import Derived.Test.YtadkgcjmacccnaaAudM
import Derived.Test.YtadkgcjmacccnaaAudR
namespace Go.Proofs.Ytadkgcjmacccnaa.Pure
open Go Go.RowKit Tithe Go.Proofs.Ytadkgcjmacccnaa.C Go.Proofs.YtadkgcjmacccnaaW.PrintWords Go.Proofs.YtadkgcjmacccnaaW.PrintLast Go.Proofs.YtadkgcjmacccnaaW.PrintMore
/-- a sum over the first n numbers -/
def sm : Nat → (Nat → Int) → Int
  | 0, _ => 0
  | n + 1, g => sm n g + g n
theorem sm_congr {g g' : Nat → Int} : ∀ {n : Nat}, (∀ k, k < n → g k = g' k) → sm n g = sm n g'
  | 0, _ => rfl
  | n + 1, h => by
    show sm n g + g n = sm n g' + g' n
    rw [sm_congr (fun k hk => h k (by omega)), h n (by omega)]
theorem sm_filter (p : Nat → Bool) (g : Nat → Int) : ∀ n, (((List.range n).filter p).map g).sum = sm n (fun k => if p k = true then g k else 0)
  | 0 => rfl
  | n + 1 => by
    rw [List.range_succ, List.filter_append, List.map_append, List.sum_append, sm_filter p g n]
    show _ = sm n _ + _
    congr 1
    by_cases h : p n = true
    · simp [h]
    · simp [h]
theorem sm_map (L : List S43) (f : S43 → Int) : (L.map f).sum = sm L.length (fun k => f (rd_T43 L (k : Int))) := by
  have h := sm_filter (fun _ => true) (fun k => f (rd_T43 L (k : Int))) L.length
  rw [List.filter_eq_self.2 (fun _ _ => rfl)] at h
  rw [show (sm L.length fun k => f (rd_T43 L (k : Int))) = sm L.length (fun k => if true = true then f (rd_T43 L (k : Int)) else 0) from sm_congr (fun _ _ => rfl), ← h]
  congr 1
  apply List.ext_getElem
  · simp
  · intro i h1 h2
    have hi : i < L.length := by simpa using h1
    simp [rd_get hi]
theorem sm_but {g : Nat → Int} {j : Nat} : ∀ {n : Nat}, j < n → sm n (fun k => if k ≠ j then g k else 0) = sm n g - g j
  | n + 1, h => by
    show sm n _ + (if n ≠ j then g n else 0) = sm n g + g n - g j
    by_cases e : n = j
    · subst e
      rw [if_neg (by simp), sm_congr (g' := g) (fun k hk => if_pos (by omega))]
      omega
    · rw [if_pos e, sm_but (by omega)]
      omega
/-- the level by a sum -/
theorem lev_sum {l : List S43} {j : Nat} (hj : j < l.length) (t : Int) : lev l j t = (rd_T43 l (j : Int)).f1 + sm l.length (fun k => if ab l k j = true then rq (rd_T43 l (k : Int)) t else 0) := by
  unfold lev rs
  rw [ahl_sum hj, sm_filter]
theorem rq_prio (x : S43) (p t : Int) : rq (prio x p) t = rq x t := rfl
/-- what those without a place ask for, but i -/
def Sq (l : List S43) (has : Nat → Bool) (i : Nat) (t : Int) : Int := sm l.length (fun k => if k ≠ i ∧ has k = false then rq (rd_T43 l (k : Int)) t else 0)
theorem okp_prio {x : S43} (h : okp x) {p : Int} (h0 : 0 ≤ p) (h1 : p ≤ 31) : okp (prio x p) := by
  obtain ⟨a, b, c, d, e, f, _, _⟩ := h
  exact ⟨a, b, c, d, e, f, h0, h1⟩
theorem okp_rd {l : List S43} (hok : ∀ x ∈ l, okp x) {k : Nat} (hk : k < l.length) : okp (rd_T43 l (k : Int)) := by
  rw [rd_get hk]; exact hok _ (List.getElem_mem hk)
/-! the program's list -/
theorem tryN_len' (l : List S43) (has : Nat → Bool) (i : Nat) : ∀ n, (tryN l has i n).length ≤ n
  | 0 => Nat.le_refl _
  | n + 1 => by
    have := tryN_len' l has i n
    unfold tryN
    split
    · simp; omega
    · split
      · simp; omega
      · omega
theorem tryN_ok {l : List S43} (hok : ∀ x ∈ l, okp x) (has : Nat → Bool) (i : Nat) : ∀ n, n ≤ l.length → ∀ x ∈ tryN l has i n, okp x
  | 0, _, x, hx => by simp [tryN] at hx
  | n + 1, hn, x, hx => by
    have ih := tryN_ok hok has i n (by omega)
    have h0 := okp_rd hok (k := n) (by omega)
    unfold tryN at hx
    split at hx
    · rcases List.mem_append.1 hx with h | h
      · exact ih x h
      · obtain rfl := List.mem_singleton.1 h
        exact okp_prio h0 (by omega) (by omega)
    · split at hx
      · rcases List.mem_append.1 hx with h | h
        · exact ih x h
        · obtain rfl := List.mem_singleton.1 h
          exact okp_prio h0 (by omega) (by omega)
      · exact ih x hx
theorem tryN_sum (l : List S43) (has : Nat → Bool) (i : Nat) (t : Int) : ∀ n, rs (tryN l has i n) t = sm n (fun k => if k = i ∨ has k = false then rq (rd_T43 l (k : Int)) t else 0)
  | 0 => rfl
  | n + 1 => by
    have ih := tryN_sum l has i t n
    show rs (tryN l has i (n + 1)) t = sm n (fun k => if k = i ∨ has k = false then rq (rd_T43 l (k : Int)) t else 0) + (if n = i ∨ has n = false then rq (rd_T43 l (n : Int)) t else 0)
    rw [← ih]
    by_cases h : n = i
    · rw [show tryN l has i (n + 1) = tryN l has i n ++ [prio (rd_T43 l (n : Int)) 1] from if_pos h, rs_append, rs_cons, rs_nil, rq_prio, if_pos (Or.inl h)]; omega
    · by_cases h2 : has n = false
      · rw [show tryN l has i (n + 1) = tryN l has i n ++ [prio (rd_T43 l (n : Int)) 0] from (if_neg h).trans (if_pos h2), rs_append, rs_cons, rs_nil, rq_prio, if_pos (Or.inr h2)]; omega
      · rw [show tryN l has i (n + 1) = tryN l has i n from (if_neg h).trans (if_neg h2), if_neg (by rintro (h3 | h3); exact h h3; exact h2 h3)]; omega
theorem rd_append_left {L M : List S43} {k : Nat} (h : k < L.length) : rd_T43 (L ++ M) (k : Int) = rd_T43 L (k : Int) := by
  rw [rd_get h, rd_get (by rw [List.length_append]; omega), List.getElem_append_left h]
theorem rd_append_at {L : List S43} {x : S43} : rd_T43 (L ++ [x]) (L.length : Int) = x := by
  rw [rd_get (by simp)]; simp
/-- where i lies, and that it is alone at 1 -/
theorem tryN_at (l : List S43) (has : Nat → Bool) (i : Nat) : ∀ n, (i < n → atN l has i n < (tryN l has i n).length ∧ rd_T43 (tryN l has i n) ((atN l has i n : Nat) : Int) = prio (rd_T43 l (i : Int)) 1) ∧ (∀ k, k < (tryN l has i n).length → (i < n → k ≠ atN l has i n) → (rd_T43 (tryN l has i n) (k : Int)).f3 = 0)
  | 0 => ⟨fun h => absurd h (by omega), fun k hk => by simp [tryN] at hk⟩
  | n + 1 => by
    obtain ⟨ih1, ih2⟩ := tryN_at l has i n
    by_cases h : n = i
    · have e1 : tryN l has i (n + 1) = tryN l has i n ++ [prio (rd_T43 l (n : Int)) 1] := if_pos h
      have e2 : atN l has i (n + 1) = (tryN l has i n).length := if_pos h
      rw [e1, e2]
      refine ⟨fun _ => ⟨by simp, by rw [rd_append_at, h]⟩, fun k hk hne => ?_⟩
      have hne := hne (by omega)
      rw [List.length_append, List.length_singleton] at hk
      rw [rd_append_left (by omega)]
      exact ih2 k (by omega) (fun h2 => by omega)
    · have e2 : atN l has i (n + 1) = atN l has i n := if_neg h
      rw [e2]
      by_cases h2 : has n = false
      · have e1 : tryN l has i (n + 1) = tryN l has i n ++ [prio (rd_T43 l (n : Int)) 0] := (if_neg h).trans (if_pos h2)
        rw [e1]
        refine ⟨fun hi => ?_, fun k hk hne => ?_⟩
        · obtain ⟨a, b⟩ := ih1 (by omega)
          exact ⟨by rw [List.length_append]; omega, by rw [rd_append_left a]; exact b⟩
        · rw [List.length_append, List.length_singleton] at hk
          by_cases e : k = (tryN l has i n).length
          · rw [e, rd_append_at]; rfl
          · rw [rd_append_left (by omega)]
            exact ih2 k (by omega) (fun h3 => hne (by omega))
      · have e1 : tryN l has i (n + 1) = tryN l has i n := (if_neg h).trans (if_neg h2)
        rw [e1]
        exact ⟨fun hi => ih1 (by omega), fun k hk hne => ih2 k hk (fun h3 => hne (by omega))⟩
theorem try_lev {l : List S43} {has : Nat → Bool} {i : Nat} (hi : i < l.length) (t : Int) : lev (tryN l has i l.length) (atN l has i l.length) t = (rd_T43 l (i : Int)).f1 + Sq l has i t := by
  obtain ⟨h1, h2⟩ := tryN_at l has i l.length
  obtain ⟨h1, h3⟩ := h1 hi
  rw [lev_sum h1, h3]
  show (rd_T43 l (i : Int)).f1 + _ = _
  congr 1
  rw [sm_congr (g' := fun k => if k ≠ atN l has i l.length then rq (rd_T43 (tryN l has i l.length) (k : Int)) t else 0), sm_but h1, h3]
  · have e := sm_map (tryN l has i l.length) (fun x => rq x t)
    have e2 := tryN_sum l has i t l.length
    unfold rs at e2
    rw [e2] at e
    rw [← e, rq_prio]
    unfold Sq
    have e3 := sm_but (g := fun k => if k = i ∨ has k = false then rq (rd_T43 l (k : Int)) t else 0) hi
    simp only [true_or, if_true] at e3
    rw [← e3]
    refine sm_congr fun k _ => ?_
    by_cases hk : k = i
    · subst hk; simp
    · by_cases hh : has k = false
      · simp [hk, hh]
      · simp [hk, hh]
  · intro k hk
    have : ab (tryN l has i l.length) k (atN l has i l.length) = decide (k ≠ atN l has i l.length) := by
      unfold ab
      rw [h3]
      by_cases e : k = atN l has i l.length
      · subst e
        rw [h3]
        simp
      · have := h2 k hk (fun _ => e)
        rw [this]
        simp [e, prio]
    rw [this]
    by_cases e : k = atN l has i l.length
    · simp [e]
    · simp [e]
/-! the document's list -/
def wl (l : List S43) (q : List Int) : List S43 := (List.range l.length).map fun k : Nat => prio (rd_T43 l (k : Int)) (rd q (k : Int))
theorem wl_len (l : List S43) (q : List Int) : (wl l q).length = l.length := by simp [wl]
theorem wl_rd {l : List S43} {q : List Int} {k : Nat} (hk : k < l.length) : rd_T43 (wl l q) (k : Int) = prio (rd_T43 l (k : Int)) (rd q (k : Int)) := by
  rw [rd_get (by rw [wl_len]; exact hk)]; simp [wl]
theorem With_evt {l : List S43} {q : List Int} (hq : q.length = l.length) (h8 : l.length ≤ 8) : Evt (fun k => titheref22_With.f k l q) (wl l q) := by
  have key : ∀ (d p : Nat) (acc : List S43), p + d = l.length → acc = (List.range p).map (fun k : Nat => prio (rd_T43 l (k : Int)) (rd q (k : Int))) → Evt (fun k => titheref22_With.l0 k l q acc (p : Int)) (wl l q) := by
    intro d
    induction d with
    | zero =>
      intro p acc hp ha
      refine Evt.succ ?_
      simp only [titheref22_With.l0]
      refine Evt.ifn (by omega) (Evt.pure fun _ => ?_)
      rw [ha, show p = l.length by omega]; rfl
    | succ d ih =>
      intro p acc hp ha
      refine Evt.succ ?_
      simp only [titheref22_With.l0]
      rw [w1 p (by omega)]
      refine Evt.ifp (by omega) (Evt.ifp (by omega) (Evt.ifp (by omega) (Evt.ifp (by rw [ha]; simp; omega) (ih (p + 1) _ (by omega) ?_))))
      rw [ha, List.range_succ, List.map_append]; rfl
  exact key l.length 0 [] (by omega) rfl
theorem rd_map_int (n : Nat) (f : Nat → Int) {k : Nat} (hk : k < n) : rd ((List.range n).map f) (k : Int) = f k := by
  simp [rd, List.getD, hk]
theorem wl_lev {l : List S43} {x : Au} {v : Nat} {i : Nat} (hi : i < l.length) (hh : x.has i = false) (hps : ∀ k, k < l.length → x.has k = true → (v : Int) < x.ps k) (h0 : v = 0 → ∀ k, k < l.length → x.has k = false → k = i) (t : Int) :
    lev (wl l (lR l x (v : Int) i)) i t = (rd_T43 l (i : Int)).f1 + Sq l x.has i t := by
  rw [lev_sum (by rw [wl_len]; exact hi), wl_rd hi, wl_len]
  show (rd_T43 l (i : Int)).f1 + _ = _
  congr 1
  refine sm_congr fun k hk => ?_
  rw [wl_rd hk, rq_prio]
  have e : ab (wl l (lR l x (v : Int) i)) k i = decide (k ≠ i ∧ x.has k = false) := by
    unfold ab
    rw [wl_rd hk, wl_rd hi]
    unfold lR
    rw [rd_map_int _ _ hk, rd_map_int _ _ hi]
    rw [if_pos rfl]
    by_cases hki : k = i
    · subst hki; simp
    · rw [if_neg hki]
      apply decide_eq_decide.2
      show _ < _ ∨ _ = _ ∧ _ ↔ _
      simp only [prio]
      by_cases hhk : x.has k = true
      · rw [if_pos hhk]
        have := hps k hk hhk
        constructor
        · intro h
          exfalso
          by_cases hv : (v : Int) = 0
          · rw [if_pos hv] at h; omega
          · rw [if_neg hv] at h; omega
        · rintro ⟨_, h⟩; rw [h] at hhk; simp at hhk
      · rw [if_neg hhk]
        have hf : x.has k = false := by cases h : x.has k with | true => exact absurd h hhk | false => rfl
        refine ⟨fun _ => ⟨hki, hf⟩, fun _ => ?_⟩
        by_cases hv : v = 0
        · exact absurd (h0 hv k hk hf) hki
        · rw [if_neg (by omega)]; omega
  rw [e]
  by_cases hc : k ≠ i ∧ x.has k = false
  · rw [if_pos hc]; simp [hc]
  · rw [if_neg hc]; simp [hc]
theorem wl_ok {l : List S43} (hok : ∀ x ∈ l, okp x) {q : List Int} (hq : ∀ k, k < l.length → 0 ≤ rd q (k : Int) ∧ rd q (k : Int) ≤ 31) : ∀ x ∈ wl l q, okp x := by
  intro x hx
  obtain ⟨k, hk, rfl⟩ := List.mem_map.1 hx
  have hk := List.mem_range.1 hk
  exact okp_prio (okp_rd hok hk) (hq k hk).1 (hq k hk).2
end Go.Proofs.Ytadkgcjmacccnaa.Pure
namespace Go.Proofs.Ytadkgcjmacccnaa.Pure
open Go Go.RowKit Tithe Go.Proofs.Ytadkgcjmacccnaa.C Go.Proofs.YtadkgcjmacccnaaW.PrintWords Go.Proofs.YtadkgcjmacccnaaW.PrintLast Go.Proofs.YtadkgcjmacccnaaW.PrintMore
/-- how many of the first n have no place -/
def cnt (has : Nat → Bool) : Nat → Nat
  | 0 => 0
  | n + 1 => cnt has n + if has n = true then 0 else 1
theorem cnt_none (n : Nat) : cnt (fun _ => false) n = n := by
  induction n with
  | zero => rfl
  | succ n ih => show cnt _ n + _ = _; rw [ih]; simp
theorem cnt_set {has : Nat → Bool} {i : Nat} (hh : has i = false) : ∀ {n : Nat}, (i < n → cnt (setB has i) n + 1 = cnt has n) ∧ (n ≤ i → cnt (setB has i) n = cnt has n)
  | 0 => ⟨fun h => absurd h (by omega), fun _ => rfl⟩
  | n + 1 => by
    obtain ⟨a, b⟩ := cnt_set hh (n := n)
    constructor
    · intro h
      show cnt _ n + _ + 1 = cnt has n + _
      by_cases e : n = i
      · subst e
        rw [b (Nat.le_refl _)]
        simp [setB, hh]
      · have := a (by omega)
        have e2 : setB has i n = has n := if_neg e
        rw [e2]; omega
    · intro h
      show cnt _ n + _ = cnt has n + _
      have e2 : setB has i n = has n := if_neg (by omega)
      rw [b (by omega), e2]
theorem cnt_zero {has : Nat → Bool} : ∀ {n : Nat}, cnt has n = 0 → ∀ k, k < n → has k = true
  | 0, _, k, hk => absurd hk (by omega)
  | n + 1, h, k, hk => by
    have h' : cnt has n + (if has n = true then 0 else 1) = 0 := h
    by_cases e : k = n
    · subst e
      by_cases hq : has k = true
      · exact hq
      · rw [if_neg hq] at h'; omega
    · exact cnt_zero (n := n) (by omega) k (by omega)
theorem cnt_one {has : Nat → Bool} {n i k : Nat} (h : cnt has n = 1) (hi : i < n) (hh : has i = false) (hk : k < n) (hhk : has k = false) : k = i := by
  have h0 : cnt (setB has i) n = 0 := by have := (cnt_set hh (n := n)).1 hi; omega
  have := cnt_zero h0 k hk
  unfold setB at this
  by_cases e : k = i
  · exact e
  · rw [if_neg e, hhk] at this; simp at this
/-- one entry at one level: both ask the same -/
theorem one_rel {l : List S43} {m : List S57} (h8 : l.length ≤ 8) (hok : ∀ x ∈ l, okp x) (hm8 : m.length ≤ 8) (hm : ∀ x ∈ m, okr (pr x)) {xR : Au} {v i : Nat} (hi : i < l.length) (hv : v < 8) (hh : xR.has i = false)
    (hps : ∀ k, k < l.length → xR.has k = true → (v : Int) < xR.ps k ∧ xR.ps k ≤ 31) (h0 : v = 0 → ∀ k, k < l.length → xR.has k = false → k = i) :
    ∃ (t1 : Int × Bool) (t2 : Int), Evt (fun k => response_time.f k (tryN l xR.has i l.length) ((atN l xR.has i l.length : Nat) : Int) m) t1 ∧ Evt (fun k => titheref22_time.f k (wl l (lR l xR (v : Int) i)) (i : Int) m) t2 ∧ (t1.2 = true ↔ t2 ≠ 0) := by
  have hm' : m.length ≤ 140737488351232 := by omega
  obtain ⟨a1, a2⟩ := tryN_at l xR.has i l.length
  obtain ⟨a1, a3⟩ := a1 hi
  have hl1 := tryN_len' l xR.has i l.length
  have hok1 := tryN_ok hok xR.has i l.length (Nat.le_refl _)
  have hwl := wl_len l (lR l xR (v : Int) i)
  have hq : ∀ k, k < l.length → 0 ≤ rd (lR l xR (v : Int) i) (k : Int) ∧ rd (lR l xR (v : Int) i) (k : Int) ≤ 31 := by
    intro k hk
    unfold lR
    rw [rd_map_int _ _ hk]
    by_cases e : k = i
    · rw [if_pos e]
      by_cases e2 : (v : Int) = 0
      · rw [if_pos e2]; omega
      · rw [if_neg e2]; omega
    · rw [if_neg e]
      by_cases e2 : xR.has k = true
      · rw [if_pos e2]
        have := hps k hk e2
        omega
      · rw [if_neg e2]; omega
  have hok2 := wl_ok hok hq
  have hf2a : (rd_T43 (tryN l xR.has i l.length) ((atN l xR.has i l.length : Nat) : Int)).f2 = (rd_T43 l (i : Int)).f2 := by rw [a3]; rfl
  have hf2b : (rd_T43 (wl l (lR l xR (v : Int) i)) (i : Int)).f2 = (rd_T43 l (i : Int)).f2 := by rw [wl_rd hi]; rfl
  have hla := fun t => try_lev (l := l) (has := xR.has) hi t
  have hlb := fun t => wl_lev hi hh (fun k hk hk2 => (hps k hk hk2).1) h0 t
  obtain ⟨v2, b2, q1, q2, q3, q4⟩ := time_rel (l := wl l (lR l xR (v : Int) i)) (m := m) (by rw [hwl]; exact h8) hm' hok2 (j := i) (by rw [hwl]; exact hi)
  have hb2 : b2 = true ↔ v2 ≠ 0 := by
    cases b2 with
    | true => have := q3 rfl; constructor; intro _; omega; intro _; rfl
    | false => have := q4 rfl; constructor; intro h; simp at h; intro h; exact absurd this h
  have hb : b2 = true ↔ fitAt (wl l (lR l xR (v : Int) i)) m i := by
    rcases time_ok (l := wl l (lR l xR (v : Int) i)) (m := m) (by rw [hwl]; exact h8) hok2 hm8 hm (j := i) (by rw [hwl]; exact hi) with ⟨s, p1, p2, p3, p4, _⟩ | ⟨p1, p2⟩
    · have e := Evt.inj q1 p1
      simp only [Prod.mk.injEq] at e
      obtain ⟨_, rfl⟩ := e
      exact ⟨fun _ => ⟨s, p2, p3, p4⟩, fun _ => rfl⟩
    · have e := Evt.inj q1 p1
      simp only [Prod.mk.injEq] at e
      obtain ⟨_, rfl⟩ := e
      constructor
      · intro h; simp at h
      · rintro ⟨s, s1, s2, s3⟩
        have := p2 s s1 s2
        omega
  have hfit : fitAt (tryN l xR.has i l.length) m (atN l xR.has i l.length) ↔ fitAt (wl l (lR l xR (v : Int) i)) m i := by
    unfold fitAt
    constructor
    · rintro ⟨t, t1, t2, t3⟩
      exact ⟨t, t1, by rw [hf2b, ← hf2a]; exact t2, by rw [hlb, ← hla]; exact t3⟩
    · rintro ⟨t, t1, t2, t3⟩
      exact ⟨t, t1, by rw [hf2a, ← hf2b]; exact t2, by rw [hla, ← hlb]; exact t3⟩
  rcases time_ok (l := tryN l xR.has i l.length) (m := m) (by omega) hok1 hm8 hm a1 with ⟨s, p1, p2, p3, p4, _⟩ | ⟨p1, p2⟩
  · exact ⟨_, _, p1, q2, ⟨fun _ => hb2.1 (hb.2 (hfit.1 ⟨s, p2, p3, p4⟩)), fun _ => rfl⟩⟩
  · refine ⟨_, _, p1, q2, ⟨fun h => by simp at h, fun h => ?_⟩⟩
    obtain ⟨s, s1, s2, s3⟩ := hfit.2 (hb.1 (hb2.2 h))
    have := p2 s s1 s2
    omega
theorem lR_length (l : List S43) (x : Au) (v : Int) (i : Nat) : (lR l x v i).length = l.length := by simp [lR]
theorem find_rel {l : List S43} {m : List S57} (h8 : l.length ≤ 8) (hok : ∀ x ∈ l, okp x) (hm8 : m.length ≤ 8) (hm : ∀ x ∈ m, okr (pr x)) {xR : Au} {v : Nat} (hv : v < 8)
    (hps : ∀ k, k < l.length → xR.has k = true → (v : Int) < xR.ps k ∧ xR.ps k ≤ 31) (h0 : v = 0 → cnt xR.has l.length = 1) :
    ∀ (d i : Nat), i + d = l.length → ∃ r : Option Nat, Evt (fun k => findA k l m xR.has d i) r ∧ Evt (fun k => findR k l m xR (v : Int) d i) r ∧ (∀ j, r = some j → j < l.length ∧ xR.has j = false) := by
  intro d
  induction d with
  | zero => intro i _; exact ⟨none, Evt.pure fun _ => rfl, Evt.pure fun _ => rfl, by simp⟩
  | succ d ih =>
    intro i hi
    obtain ⟨r, y1, y2, y3⟩ := ih (i + 1) (by omega)
    by_cases hh : xR.has i = true
    · refine ⟨r, ?_, ?_, y3⟩
      · unfold findA; exact Evt.ifp hh y1
      · unfold findR; exact Evt.ifp hh y2
    · have hf : xR.has i = false := by cases h : xR.has i with | true => exact absurd h hh | false => rfl
      obtain ⟨t1, t2, p1, p2, p3⟩ := one_rel h8 hok hm8 hm (by omega) hv hf hps (fun e k hk hk2 => cnt_one (h0 e) (by omega) hf hk hk2)
      by_cases hb : t1.2 = true
      · refine ⟨some i, ?_, ?_, fun j hj => by obtain rfl := Option.some.inj hj; exact ⟨by omega, hf⟩⟩
        · unfold findA; exact Evt.ifn hh (Evt.bind p1 (Evt.ifp hb (Evt.pure fun _ => rfl)))
        · unfold findR; exact Evt.ifn hh (Evt.bind (With_evt (lR_length _ _ _ _) h8) (Evt.bind p2 (Evt.ifn (p3.1 hb) (Evt.pure fun _ => rfl))))
      · refine ⟨r, ?_, ?_, y3⟩
        · unfold findA; exact Evt.ifn hh (Evt.bind p1 (Evt.ifn hb y1))
        · unfold findR; exact Evt.ifn hh (Evt.bind (With_evt (lR_length _ _ _ _) h8) (Evt.bind p2 (Evt.ifp (Classical.byContradiction fun h => hb (p3.2 h)) y2)))
theorem lev_rel {l : List S43} {m : List S57} (h8 : l.length ≤ 8) (hok : ∀ x ∈ l, okp x) (hm8 : m.length ≤ 8) (hm : ∀ x ∈ m, okr (pr x)) :
    ∀ (v : Nat) (xA xR : Au), v ≤ l.length → xA.has = xR.has → (∀ k, k < l.length → xR.has k = true → xA.ps k = xR.ps k ∧ (v : Int) ≤ xR.ps k ∧ xR.ps k ≤ 31) → cnt xR.has l.length = v →
      (Evt (fun k => levA k l m v xA) none ∧ Evt (fun k => levR k l m v xR) none) ∨ ∃ a b : Au, Evt (fun k => levA k l m v xA) (some a) ∧ Evt (fun k => levR k l m v xR) (some b) ∧ ∀ k, k < l.length → a.ps k = b.ps k := by
  intro v
  induction v with
  | zero =>
    intro xA xR _ _ hps hc
    exact .inr ⟨xA, xR, Evt.pure fun _ => rfl, Evt.pure fun _ => rfl, fun k hk => (hps k hk (cnt_zero hc k hk)).1⟩
  | succ v ih =>
    intro xA xR hv he hps hc
    obtain ⟨r, y1, y2, y3⟩ := find_rel h8 hok hm8 hm (xR := xR) (v := v) (by omega) (fun k hk hk2 => by have := hps k hk hk2; omega) (fun e => by omega) l.length 0 (by omega)
    rw [← he] at y1
    cases r with
    | none =>
      refine .inl ⟨?_, ?_⟩
      · unfold levA; exact Evt.bind y1 (Evt.pure fun _ => rfl)
      · unfold levR; exact Evt.bind y2 (Evt.pure fun _ => rfl)
    | some i =>
      obtain ⟨hi, hf⟩ := y3 i rfl
      have ih2 := ih ⟨setP xA.ps i (v : Int), setB xA.has i⟩ ⟨setP xR.ps i (v : Int), setB xR.has i⟩ (by omega) (by rw [he]) (fun k hk hk2 => by
        show setP xA.ps i (v : Int) k = setP xR.ps i (v : Int) k ∧ (v : Int) ≤ setP xR.ps i (v : Int) k ∧ setP xR.ps i (v : Int) k ≤ 31
        unfold setP
        by_cases e : k = i
        · rw [if_pos e, if_pos e]; omega
        · rw [if_neg e, if_neg e]
          have hk3 : xR.has k = true := by
            have : setB xR.has i k = true := hk2
            unfold setB at this
            rwa [if_neg e] at this
          have := hps k hk hk3
          omega) (by have := (cnt_set hf (n := l.length)).1 hi; show cnt (setB xR.has i) l.length = v; omega)
      rcases ih2 with ⟨z1, z2⟩ | ⟨a, b, z1, z2, z3⟩
      · refine .inl ⟨?_, ?_⟩
        · unfold levA; exact Evt.bind y1 z1
        · unfold levR; exact Evt.bind y2 z2
      · refine .inr ⟨a, b, ?_, ?_, z3⟩
        · unfold levA; exact Evt.bind y1 z1
        · unfold levR; exact Evt.bind y2 z2
/-- Audsley's answers are one -/
theorem Audsley_rel {l : List S43} {m : List S57} (hl : l.length ≤ 4398046511104) (hm : m.length ≤ 140737488351232) :
    ∃ L e n, Evt (fun k => response_Audsley.f k l m) (L, e) ∧ Evt (fun k => titheref22_Audsley.f k l m) (L, n) ∧ nm e = n ∧ L.length ≤ 8 := by
  have h1 := check_evt hl hm
  have h2 := fault_evt hl hm
  by_cases hf : fc l m = 0
  · rw [if_pos hf] at h1
    rw [hf] at h2
    obtain ⟨h8, hok⟩ := fc_ok hf
    obtain ⟨hm8, hmr⟩ := fc_row hf
    rcases lev_rel h8 hok hm8 hmr l.length (au0 l) ar0 (Nat.le_refl _) rfl (fun k _ h => by simp [ar0] at h) (cnt_none _) with ⟨y1, y2⟩ | ⟨a, b, y1, y2, y3⟩
    · refine ⟨[], some 220, 220, ?_, ?_, rfl, by simp⟩
      · unfold response_Audsley.f; exact Evt.bind h1 (Evt.ifn (by simp) (Evt.ifp h8 (Evt.bind y1 (Evt.pure fun _ => rfl))))
      · unfold titheref22_Audsley.f; exact Evt.bind h2 (Evt.ifp rfl (Evt.ifp h8 (Evt.bind y2 (Evt.pure fun _ => rfl))))
    · have e : outA l a.ps = wl l (psL l b.ps) := by
        unfold outA wl
        apply List.map_congr_left
        intro k hk
        have hk := List.mem_range.1 hk
        rw [y3 k hk]
        unfold psL
        rw [rd_map_int _ _ hk]
      refine ⟨outA l a.ps, none, 0, ?_, ?_, rfl, by simp [outA]; omega⟩
      · unfold response_Audsley.f; exact Evt.bind h1 (Evt.ifn (by simp) (Evt.ifp h8 (Evt.bind y1 (Evt.pure fun _ => rfl))))
      · unfold titheref22_Audsley.f; exact Evt.bind h2 (Evt.ifp rfl (Evt.ifp h8 (Evt.bind y2 (Evt.bind (With_evt (by simp [psL]) h8) (Evt.pure fun _ => by rw [e])))))
  · rw [if_neg hf] at h1
    refine ⟨[], some (fc l m), fc l m, ?_, ?_, rfl, by simp⟩
    · unfold response_Audsley.f; exact Evt.bind h1 (Evt.ifp rfl (Evt.pure fun _ => rfl))
    · unfold titheref22_Audsley.f; exact Evt.bind h2 (Evt.ifn hf (Evt.pure fun _ => rfl))
/-! the greatest cost, in the document's way -/
theorem RefFits_setc {l : List S43} {m : List S57} (h : fc l m = 0) {i : Nat} (hi : i < l.length) {c : Int} (h0 : 1 ≤ c) (h1 : c ≤ 1048576) : ∃ n : Int, Evt (fun k => titheref22_Fits.f k (setc l i c) m) n ∧ (n = 0 ↔ fits l m i c) := by
  obtain ⟨b, p1, p2⟩ := Fits_setc h hi h0 h1
  obtain ⟨h8, _⟩ := fc_ok h
  obtain ⟨hm8, _⟩ := fc_row h
  obtain ⟨L, e, n, q1, q2, q3, _⟩ := All_rel (l := setc l i c) (m := m) (by rw [setc_len]; omega) (by omega)
  have q4 : Evt (fun k => response_Fits.f k (setc l i c) m) e := by unfold response_Fits.f; exact Evt.bind q1 (Evt.pure fun _ => rfl)
  have he := Evt.inj q4 p1
  refine ⟨n, by unfold titheref22_Fits.f; exact Evt.bind q2 (Evt.pure fun _ => rfl), ?_⟩
  rw [← p2, ← q3, he]
  cases b with
  | true => simp [nm]
  | false => simp [nm]
theorem RefMost_loop {l : List S43} {m : List S57} (h : fc l m = 0) {i : Nat} (hi : i < l.length) :
    ∀ (d : Nat) (lo up : Int), up - lo ≤ d → 0 ≤ lo → lo < up → up ≤ (rd_T43 l (i : Int)).f2 + 1 → (lo = 0 ∨ fits l m i lo) → (up = (rd_T43 l (i : Int)).f2 + 1 ∨ ¬ fits l m i up) →
      ∃ n : Int, Evt (fun k => titheref22_Most.l0 k l (i : Int) m lo up) (n, if n = 0 then 220 else 0) ∧ 0 ≤ n ∧ n ≤ (rd_T43 l (i : Int)).f2 ∧ (n = 0 ∨ fits l m i n) ∧ (n = (rd_T43 l (i : Int)).f2 ∨ ¬ fits l m i (n + 1)) := by
  obtain ⟨h8, hok⟩ := fc_ok h
  have hx := hok _ (List.getElem_mem hi)
  rw [← rd_get hi] at hx
  obtain ⟨a1, a2, _, _, a3, a4, _⟩ := hx
  intro d
  induction d with
  | zero => intro lo up hd h0 h1; omega
  | succ d ih =>
    intro lo up hd h0 h1 h2 hlo hup
    by_cases hc : lo + 1 < up
    · have hmid : wrap64 (Int.tdiv (wrap64 (lo + up)) 2) = (lo + up) / 2 := by
        rw [w64 (n := lo + up) (by omega) (by omega), tdiv_pos (by omega), w64 (n := (lo + up) / 2) (by omega) (by omega)]
      obtain ⟨n, q1, q2⟩ := RefFits_setc h hi (c := (lo + up) / 2) (by omega) (by omega)
      have go1 : ∀ r, Evt (fun k => if n = 0 then titheref22_Most.l0 k l (i : Int) m ((lo + up) / 2) up else titheref22_Most.l0 k l (i : Int) m lo ((lo + up) / 2)) r → Evt (fun k => titheref22_Most.l0 k l (i : Int) m lo up) r := by
        intro r hr
        refine Evt.succ ?_
        simp only [titheref22_Most.l0]
        rw [w64 (n := up - lo) (by omega) (by omega), hmid]
        refine Evt.ifp (by omega) (Evt.ifp (by simp; omega) (Evt.call (a := l) rfl (Evt.ifp (by omega) (Evt.ifp (by omega) (Evt.bind (a := n) ?_ hr)))))
        simp only [Int.toNat_natCast]
        exact q1
      by_cases hn : n = 0
      · obtain ⟨n', y1, y2⟩ := ih ((lo + up) / 2) up (by omega) (by omega) (by omega) h2 (.inr (q2.1 hn)) hup
        exact ⟨n', go1 _ (Evt.ifp hn y1), y2⟩
      · obtain ⟨n', y1, y2⟩ := ih lo ((lo + up) / 2) (by omega) (by omega) (by omega) (by omega) hlo (.inr (fun h => hn (q2.2 h)))
        exact ⟨n', go1 _ (Evt.ifn hn y1), y2⟩
    · obtain rfl : up = lo + 1 := by omega
      refine ⟨lo, Evt.succ ?_, h0, by omega, hlo, ?_⟩
      · simp only [titheref22_Most.l0]
        rw [w64 (n := lo + 1 - lo) (by omega) (by omega)]
        refine Evt.ifn (by omega) ?_
        by_cases hz : lo = 0
        · subst hz; exact Evt.ifp rfl (Evt.pure fun _ => rfl)
        · refine Evt.ifn hz (Evt.pure fun _ => ?_); rw [if_neg hz]
      · rcases hup with h | h
        · exact .inl (by omega)
        · exact .inr h
theorem Most_rel {l : List S43} {m : List S57} (hl : l.length ≤ 4398046511104) (hm : m.length ≤ 140737488351232) (a : Int) :
    ∃ v e n, Evt (fun k => response_Most.f k l a m) (v, e) ∧ Evt (fun k => titheref22_Most.f k l a m) (v, n) ∧ nm e = n := by
  have h1 := check_evt hl hm
  have h2 := fault_evt hl hm
  by_cases hf : fc l m = 0
  · rw [if_pos hf] at h1
    rw [hf] at h2
    by_cases ha : a < 0
    · refine ⟨0, some 1, 1, ?_, ?_, rfl⟩
      · unfold response_Most.f
        refine Evt.bind h1 (Evt.ifp rfl (Evt.ifp ha (Evt.succ ?_)))
        simp only [response_Most.j0]
        exact Evt.ifp (by simp) (Evt.pure fun _ => rfl)
      · unfold titheref22_Most.f
        exact Evt.bind h2 (Evt.ifp rfl (Evt.ifp ha (Evt.pure fun _ => rfl)))
    · by_cases ha2 : a ≥ (l.length : Int)
      · refine ⟨0, some 1, 1, ?_, ?_, rfl⟩
        · unfold response_Most.f
          refine Evt.bind h1 (Evt.ifp rfl (Evt.ifn ha (Evt.succ ?_)))
          simp only [response_Most.j0]
          exact Evt.ifp (decide_eq_true ha2) (Evt.pure fun _ => rfl)
        · unfold titheref22_Most.f
          exact Evt.bind h2 (Evt.ifp rfl (Evt.ifn ha (Evt.ifp ha2 (Evt.pure fun _ => rfl))))
      · obtain ⟨i, rfl⟩ : ∃ i : Nat, a = i := ⟨a.toNat, by omega⟩
        have hi : i < l.length := by omega
        obtain ⟨h8, hok⟩ := fc_ok hf
        have hx := hok _ (List.getElem_mem hi)
        rw [← rd_get hi] at hx
        obtain ⟨a1, a2, _, _, a3, a4, _⟩ := hx
        obtain ⟨n, q1, n0, n1, n2, n3⟩ := Most_ok hf hi
        obtain ⟨n', p1, m0, m1, m2, m3⟩ := RefMost_loop hf hi ((rd_T43 l (i : Int)).f2 + 1).toNat 0 ((rd_T43 l (i : Int)).f2 + 1) (by omega) (by omega) (by omega) (by omega) (.inl rfl) (.inl rfl)
        have e : n = n' := by
          rcases Int.lt_trichotomy n n' with hlt | he | hlt
          · rcases m2 with h | h
            · omega
            · rcases n3 with h' | h'
              · omega
              · exact absurd (fits_mono hi hok (by omega) h) h'
          · exact he
          · rcases n2 with h | h
            · omega
            · rcases m3 with h' | h'
              · omega
              · exact absurd (fits_mono hi hok (by omega) h) h'
        subst e
        refine ⟨n, _, (if n = 0 then 220 else 0), q1, ?_, ?_⟩
        · unfold titheref22_Most.f
          refine Evt.bind h2 (Evt.ifp rfl (Evt.ifn ha (Evt.ifn ha2 (Evt.ifp (by omega) (Evt.ifp (by omega) ?_)))))
          rw [w64 (n := (rd_T43 l (i : Int)).f2 + 1) (by omega) (by omega)]
          exact p1
        · by_cases hz : n = 0
          · rw [if_pos hz, if_pos hz]; rfl
          · rw [if_neg hz, if_neg hz]; rfl
  · rw [if_neg hf] at h1
    refine ⟨0, some (fc l m), fc l m, ?_, ?_, rfl⟩
    · unfold response_Most.f
      exact Evt.bind h1 (Evt.ifn (by simp) (Evt.pure fun _ => rfl))
    · unfold titheref22_Most.f
      exact Evt.bind h2 (Evt.ifn hf (Evt.pure fun _ => rfl))
end Go.Proofs.Ytadkgcjmacccnaa.Pure
