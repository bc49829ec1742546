/- What BoundsOnce goes through, in plain Lean. No conditions. -/
import Derived.Test.YtfmchkplnglepaaDoorHpBoI
namespace Go.Proofs.YtfmchkplnglepaaDoor.HpI
open Go Go.Proofs.YtfmchkplnglepaaDoor.Hp
set_option linter.unusedVariables false
set_option linter.unusedSimpArgs false
/-- the times that are noted are those of the calendar -/
def Lk (L : List En) (wh : List Int) : Prop := wh.length = 64 ∧ (∀ e ∈ L, ∀ f ∈ L, e.1 = f.1 → e = f) ∧ (∀ e ∈ L, 0 ≤ e.1 ∧ e.1 < 64 ∧ 0 ≤ e.2 ∧ e.2 < 500 ∧ wh.getD e.1.toNat 0 = e.2) ∧ (∀ j : Nat, j < 64 → wh.getD j 0 = -1 ∨ ∃ e ∈ L, e.1 = (j : Int))
theorem getD_set {wh : List Int} {i j : Nat} {x : Int} (hi : i < wh.length) : (wh.set i x).getD j 0 = if j = i then x else wh.getD j 0 := by
  simp only [List.getD_eq_getElem?_getD, List.getElem?_set]
  by_cases h : i = j
  · subst h; simp [hi]
  · simp [h, Ne.symm h]
theorem lk_start {wh : List Int} (h : wh.length = 64) (hm : ∀ j : Nat, j < 64 → wh.getD j 0 = -1) : Lk [] wh := ⟨h, fun e he => absurd he (by simp), fun e he => absurd he (by simp), fun j hj => Or.inl (hm j hj)⟩
theorem lk_put {L : List En} {wh : List Int} (h : Lk L wh) {id : Nat} {a : Int} (hid : id < 64) (h0 : 0 ≤ a) (h1 : a < 500) : Lk (ins ((id : Int), a) (del (id : Int) L)) (wh.set id a) := by
  obtain ⟨hl, hu, hc, hj⟩ := h
  have hm : ∀ e, e ∈ ins ((id : Int), a) (del (id : Int) L) ↔ e = ((id : Int), a) ∨ (e ∈ L ∧ e.1 ≠ (id : Int)) := fun e => by
    rw [(ins_perm _ _).mem_iff, List.mem_cons, mem_del]
  refine ⟨by rw [List.length_set]; exact hl, ?_, ?_, ?_⟩
  · intro e he f hf hef
    rcases (hm e).1 he with rfl | ⟨he, hne⟩
    · rcases (hm f).1 hf with rfl | ⟨hf, hnf⟩
      · rfl
      · exact absurd hef.symm hnf
    · rcases (hm f).1 hf with rfl | ⟨hf, hnf⟩
      · exact absurd hef hne
      · exact hu e he f hf hef
  · intro e he
    rcases (hm e).1 he with rfl | ⟨he, hne⟩
    · refine ⟨by show (0 : Int) ≤ (id : Int); omega, by show (id : Int) < 64; omega, h0, h1, ?_⟩
      show (wh.set id a).getD ((id : Int)).toNat 0 = a
      rw [getD_set (by omega), if_pos (by simp)]
    · obtain ⟨c0, c1, c2, c3, c4⟩ := hc e he
      refine ⟨c0, c1, c2, c3, ?_⟩
      rw [getD_set (by omega), if_neg (by omega)]
      exact c4
  · intro j hj64
    rw [getD_set (by omega)]
    by_cases e : j = id
    · rw [if_pos e]
      exact Or.inr ⟨_, (hm _).2 (Or.inl rfl), by rw [e]⟩
    · rw [if_neg e]
      rcases hj j hj64 with h | ⟨f, hf, hfj⟩
      · exact Or.inl h
      · exact Or.inr ⟨f, (hm f).2 (Or.inr ⟨hf, by rw [hfj]; omega⟩), hfj⟩
theorem len_put (id a : Int) (L : List En) : (ins (id, a) (del id L)).length ≤ L.length + 1 := by
  rw [(ins_perm _ _).length_eq]
  have := List.length_filter_le (fun e : En => e.1 != id) L
  unfold del; simp; exact this
/-- some numbers' times struck -/
def Unset (wh : List Int) (ids : List Int) (wh' : List Int) : Prop := wh'.length = 64 ∧ ∀ j : Nat, j < 64 → wh'.getD j 0 = if (j : Int) ∈ ids then -1 else wh.getD j 0
theorem unset_nil {wh : List Int} (h : wh.length = 64) : Unset wh [] wh := ⟨h, fun j _ => by simp⟩
theorem unset_step {wh ids wh' : List Int} {i m : Nat} (h : Unset wh (ids.take i) wh') (hi : i < ids.length) (hm : ids.getD i 0 = (m : Int)) (hm64 : m < 64) : Unset wh (ids.take (i + 1)) (wh'.set m (-1)) := by
  refine ⟨by rw [List.length_set]; exact h.1, fun j hj => ?_⟩
  rw [getD_set (by rw [h.1]; exact hm64)]
  have e : ids.take (i + 1) = ids.take i ++ [(m : Int)] := by
    rw [List.take_add_one]
    congr 1
    rw [List.getElem?_eq_getElem hi]
    rw [List.getD_eq_getElem?_getD, List.getElem?_eq_getElem hi] at hm
    simp at hm
    simp [hm]
  rw [e]
  by_cases hjm : j = m
  · rw [if_pos hjm, if_pos (by rw [hjm]; simp)]
  · rw [if_neg hjm, h.2 j hj]
    have : ((j : Int) ∈ ids.take i ++ [(m : Int)]) ↔ (j : Int) ∈ ids.take i := by
      simp only [List.mem_append, List.mem_singleton]
      constructor
      · rintro (h | h)
        · exact h
        · omega
      · exact Or.inl
    simp only [this]
theorem due_rest (L : List En) (till : Int) : L = dueL L till ++ restL L till := (List.takeWhile_append_dropWhile ..).symm
theorem mem_tw {p : En → Bool} : ∀ {l : List En} {e : En}, e ∈ l.takeWhile p → p e = true
  | [], _, h => by cases h
  | x :: r, e, h => by
    rw [List.takeWhile_cons] at h
    split at h
    · rename_i hx
      rcases List.mem_cons.1 h with rfl | h
      · exact hx
      · exact mem_tw h
    · cases h
theorem due_le {L : List En} {till : Int} {e : En} (h : e ∈ dueL L till) : e ∈ L ∧ e.2 ≤ till := by
  refine ⟨by rw [due_rest L till]; exact List.mem_append_left _ h, ?_⟩
  have := mem_tw h
  simpa using this
theorem rest_gt {L : List En} {till : Int} (hs : Srt L) : ∀ e ∈ restL L till, till < e.2 := by
  intro e he
  have hr : Srt (restL L till) := by
    unfold Srt at hs
    rw [due_rest L till] at hs
    exact (List.pairwise_append.1 hs).2.1
  cases hR : restL L till with
  | nil => rw [hR] at he; cases he
  | cons x r =>
    have hx : ¬ x.2 ≤ till := by
      have := List.head_dropWhile_not (p := fun e : En => decide (e.2 ≤ till)) (l := L) (by unfold restL at hR; rw [hR]; simp)
      unfold restL at hR
      simp only [hR, List.head_cons] at this
      simpa using this
    rw [hR] at he hr
    rcases List.mem_cons.1 he with rfl | he
    · omega
    · have := (bef_iff x e).1 (srt_head hr e he)
      omega
theorem due_srt {L : List En} {till : Int} (hs : Srt L) : Srt (dueL L till) := by
  unfold Srt at hs
  rw [due_rest L till] at hs
  exact (List.pairwise_append.1 hs).1
theorem lk_due {L : List En} {wh wh' : List Int} {till : Int} (h : Lk L wh) (hs : Srt L) (hu : Unset wh ((dueL L till).map (·.1)) wh') : Lk (restL L till) wh' := by
  obtain ⟨hl, hi, hc, hj⟩ := h
  have hin : ∀ e ∈ restL L till, e ∈ L := fun e he => by rw [due_rest L till]; exact List.mem_append_right _ he
  have hno : ∀ e ∈ restL L till, e.1 ∉ (dueL L till).map (·.1) := by
    intro e he hc2
    obtain ⟨d, hd, hde⟩ := List.mem_map.1 hc2
    have h1 := hi d (due_le hd).1 e (hin e he) hde
    have h2 := (due_le hd).2
    have h3 := rest_gt hs e he
    rw [h1] at h2
    omega
  refine ⟨hu.1, fun e he f hf => hi e (hin e he) f (hin f hf), fun e he => ?_, fun j hj64 => ?_⟩
  · obtain ⟨c0, c1, c2, c3, c4⟩ := hc e (hin e he)
    refine ⟨c0, c1, c2, c3, ?_⟩
    rw [hu.2 _ (by omega), if_neg (by rw [Int.toNat_of_nonneg c0]; exact hno e he)]
    exact c4
  · rw [hu.2 j hj64]
    by_cases hm : (j : Int) ∈ (dueL L till).map (·.1)
    · rw [if_pos hm]; exact Or.inl rfl
    · rw [if_neg hm]
      rcases hj j hj64 with h | ⟨e, he, hej⟩
      · exact Or.inl h
      · right
        rw [due_rest L till] at he
        rcases List.mem_append.1 he with he | he
        · exact absurd (hej ▸ List.mem_map_of_mem he) hm
        · exact ⟨e, he, hej⟩
/-- what the law asks of one that has come -/
theorem due_one {L : List En} {wh : List Int} {till : Int} (h : Lk L wh) {i : Nat} (hi : i < ((dueL L till).map (·.1)).length) : ∃ (m : Nat) (t : Int), ((dueL L till).map (·.1)).getD i 0 = (m : Int) ∧ m < 64 ∧ wh.getD m 0 = t ∧ 0 ≤ t ∧ t ≤ till ∧ at' (dueL L till) i = ((m : Int), t) := by
  have hi2 : i < (dueL L till).length := by simpa using hi
  have hmem : at' (dueL L till) i ∈ dueL L till := getD_mem' hi2
  obtain ⟨c0, c1, c2, c3, c4⟩ := h.2.2.1 _ (due_le hmem).1
  have hle := (due_le hmem).2
  refine ⟨(at' (dueL L till) i).1.toNat, (at' (dueL L till) i).2, ?_, by omega, c4, c2, hle, ?_⟩
  · rw [getD_fst, Int.toNat_of_nonneg c0]; rfl
  · rw [Int.toNat_of_nonneg c0]
theorem due_two {L : List En} {till : Int} (hs : Srt L) {i : Nat} (hi : i + 1 < (dueL L till).length) {m1 m2 : Nat} {t1 t2 : Int} (h1 : at' (dueL L till) i = ((m1 : Int), t1)) (h2 : at' (dueL L till) (i + 1) = ((m2 : Int), t2)) : t1 ≤ t2 ∧ (t1 = t2 → m1 < m2) := by
  have hd := due_srt (till := till) hs
  have hb : bef (at' (dueL L till) i) (at' (dueL L till) (i + 1)) = true := by
    unfold at'
    rw [getD_eq (by omega), getD_eq hi]
    exact List.pairwise_iff_getElem.1 hd i (i + 1) (by omega) hi (by omega)
  rw [h1, h2, bef_iff] at hb
  have hb' : t1 < t2 ∨ (t1 = t2 ∧ (m1 : Int) < (m2 : Int)) := hb
  omega
theorem lk_end {L : List En} {wh : List Int} (h : Lk L wh) (hL : ∀ e ∈ L, 500 < e.2) : L = [] ∧ ∀ j : Nat, j < 64 → wh.getD j 0 = -1 := by
  have : L = [] := by
    cases L with
    | nil => rfl
    | cons x r =>
      have a := hL x (List.mem_cons_self ..)
      have b := (h.2.2.1 x (List.mem_cons_self ..)).2.2.2.1
      omega
  subst this
  refine ⟨rfl, fun j hj => ?_⟩
  rcases h.2.2.2 j hj with h | ⟨e, he, _⟩
  · exact h
  · cases he
end Go.Proofs.YtfmchkplnglepaaDoor.HpI
