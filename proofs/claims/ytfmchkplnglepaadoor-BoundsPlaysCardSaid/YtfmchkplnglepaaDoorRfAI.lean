/- The document's list (titheref11), in plain Lean: what its functions answer at the sorted list of a heap. No conditions. -/
import Derived.Test.YtfmchkplnglepaaDoorHpCalDI
import Derived.Test.YtfmchkplnglepaaDoorQx29
import Derived.Test.YtfmchkplnglepaaDoorQx33
import Derived.Test.YtfmchkplnglepaaDoorAid
namespace Go.Proofs.YtfmchkplnglepaaDoor.R11
open Go.RowKit Go.Proofs.YtfmchkplnglepaaDoorW.PrintWords Go.Proofs.YtfmchkplnglepaaDoorW.PrintLast Go.Proofs.YtfmchkplnglepaaDoorW.PrintMore
open Go Go.Proofs.YtfmchkplnglepaaDoor.Hp Go.Proofs.YtfmchkplnglepaaDoor.HpI Go.Proofs.YtfmchkplnglepaaDoor.Q Tithe
set_option linter.unusedVariables false
set_option linter.unusedSimpArgs false
def mk (e : En) : S53 := ⟨e.1, e.2⟩
theorem evt_of {α : Type} {g : Nat → Option α} {r : α} (hm : ∀ k, LeO (g k) (g (k + 1))) {k0 : Nat} (h : g k0 = some r) : Evt g r := by
  refine ⟨k0, fun k hk => ?_⟩
  obtain ⟨d, rfl⟩ : ∃ d, k = k0 + d := ⟨k - k0, by omega⟩
  clear hk
  induction d with
  | zero => exact h
  | succ d ih => exact hm _ _ ih
theorem rd_mk (L : List En) {i : Nat} (hi : i < L.length) : rd_T53 (L.map mk) (i : Int) = mk (at' L i) := by
  unfold rd_T53 at'
  rw [Int.toNat_natCast, List.getD_eq_getElem?_getD, List.getElem?_map, List.getD_eq_getElem?_getD, List.getElem?_eq_getElem hi]
  rfl
theorem find_l0 (L : List En) (hl : L.length ≤ 1000000) (id : Int) (j : Nat) (hj : j ≤ L.length) (hno : ∀ p, p < j → (at' L p).1 ≠ id) (hat : j < L.length → (at' L j).1 = id) :
    ∀ (m i : Nat), i ≤ j → j - i = m → titheref11_Find.l0 (m + 1) (L.map mk) id (i : Int) = some (if j < L.length then (j : Int) else -1) := by
  intro m
  induction m with
  | zero =>
    intro i h1 h2
    have : i = j := by omega
    subst this
    simp only [titheref11_Find.l0, List.length_map]
    by_cases h : i < L.length
    · rw [if_pos (show (i : Int) < (L.length : Int) by omega), if_pos (show 0 ≤ (i : Int) by omega), rd_mk L h, if_pos (show (mk (at' L i)).f0 = id from hat h), if_pos h]
    · rw [if_neg (show ¬ (i : Int) < (L.length : Int) by omega), if_neg h]
  | succ m ih =>
    intro i h1 h2
    have h : i < L.length := by omega
    rw [titheref11_Find.l0]
    simp only [List.length_map]
    rw [if_pos (show (i : Int) < (L.length : Int) by omega), if_pos (show 0 ≤ (i : Int) by omega), rd_mk L h, if_neg (show ¬ (mk (at' L i)).f0 = id from hno i (by omega)), w1 i (by omega)]
    exact ih (i + 1) (by omega) (by omega)
/-- the first place of a number; the length: nowhere -/
theorem place_ex (L : List En) (id : Int) : ∃ j, j ≤ L.length ∧ (∀ p, p < j → (at' L p).1 ≠ id) ∧ (j < L.length → (at' L j).1 = id) ∧ (j < L.length ↔ id ∈ L.map (·.1)) := by
  induction L with
  | nil => exact ⟨0, by simp, fun p h => by omega, fun h => absurd h (by simp), by simp⟩
  | cons x r ih =>
    by_cases hx : x.1 = id
    · exact ⟨0, by simp, fun p h => by omega, fun _ => hx, by simp [hx]⟩
    · obtain ⟨j, h1, h2, h3, h4⟩ := ih
      refine ⟨j + 1, by simp; omega, fun p hp => ?_, fun h => h3 (by simpa using h), ?_⟩
      · cases p with
        | zero => exact hx
        | succ p => exact h2 p (by omega)
      · simp only [List.length_cons, Nat.add_lt_add_iff_right, List.map_cons, List.mem_cons, h4]
        constructor
        · exact Or.inr
        · rintro (h | h)
          · exact absurd h.symm hx
          · exact h
theorem find_f (L : List En) (hl : L.length ≤ 1000000) (id : Int) (j : Nat) (hj : j ≤ L.length) (hno : ∀ p, p < j → (at' L p).1 ≠ id) (hat : j < L.length → (at' L j).1 = id) :
    Evt (fun k => titheref11_Find.f k (L.map mk) id) (if j < L.length then (j : Int) else -1) :=
  evt_of (titheref11_Find.mono _ _) (k0 := j + 1) (find_l0 L hl id j hj hno hat j 0 (by omega) (by omega))
/-- a number's place: from what Key says -/
theorem find_key (L : List En) (hl : L.length ≤ 1000000) (hn : (L.map (·.1)).Nodup) (id : Int) :
    ∃ t : Int, Evt (fun k => titheref11_Find.f k (L.map mk) id) t ∧ ((t = -1 ∧ keyL id L = (0, false)) ∨ (0 ≤ t ∧ t < L.length ∧ keyL id L = ((rd_T53 (L.map mk) t).f1, true))) := by
  obtain ⟨j, h1, h2, h3, h4⟩ := place_ex L id
  have hf := find_f L hl id j h1 h2 h3
  by_cases h : j < L.length
  · rw [if_pos h] at hf
    refine ⟨_, hf, Or.inr ⟨by omega, by omega, ?_⟩⟩
    rw [rd_mk L h, ← h3 h, keyL_some hn (e := at' L j) (getD_mem' h)]
    rfl
  · rw [if_neg h] at hf
    exact ⟨_, hf, Or.inl ⟨rfl, keyL_none (fun hc => h (h4.2 hc))⟩⟩
theorem del_at {L : List En} (hn : (L.map (·.1)).Nodup) {id : Int} {j : Nat} (hj : j < L.length) (hje : (at' L j).1 = id) : del id L = L.take j ++ L.drop (j + 1) := by
  have e : L[j] = at' L j := by unfold at'; rw [getD_eq hj]
  have h0 : L = L.take j ++ L[j] :: L.drop (j + 1) := by rw [← List.drop_eq_getElem_cons hj, List.take_append_drop]
  have hn2 := hn
  rw [h0, List.map_append, List.map_cons, e, hje] at hn2
  have h5 := List.nodup_append.1 hn2
  have h6 := List.nodup_cons.1 h5.2.1
  have a1 : (L.take j).filter (fun e => e.1 != id) = L.take j := List.filter_eq_self.2 fun x hx => by
    simp only [bne_iff_ne, ne_eq]
    exact fun e2 => h5.2.2 x.1 (List.mem_map_of_mem hx) id (List.mem_cons_self ..) e2
  have a2 : (L.drop (j + 1)).filter (fun e => e.1 != id) = L.drop (j + 1) := List.filter_eq_self.2 fun x hx => by
    simp only [bne_iff_ne, ne_eq]
    exact fun e2 => h6.1 (e2 ▸ List.mem_map_of_mem hx)
  conv => lhs; rw [h0]
  unfold del
  rw [List.filter_append, List.filter_cons_of_neg (by rw [e, hje]; simp), a1, a2]
theorem drop_f (L : List En) (hl : L.length ≤ 1000000) (hn : (L.map (·.1)).Nodup) (id : Int) :
    Evt (fun k => titheref11_Drop.f k (L.map mk) id) ((del id L).map mk, if id ∈ L.map (·.1) then 0 else 50) := by
  obtain ⟨j, h1, h2, h3, h4⟩ := place_ex L id
  have hf := find_f L hl id j h1 h2 h3
  obtain ⟨K, hK⟩ := hf
  refine ⟨K, fun k hk => ?_⟩
  have e := hK k hk
  simp only at e
  show titheref11_Drop.f k (L.map mk) id = some _
  rw [titheref11_Drop.f, e, Option.bind_some]
  clear e hK hk
  by_cases h : j < L.length
  · have l0 : (L.map mk).length = L.length := List.length_map ..
    have l1 : (List.take j (L.map mk)).length = j := by rw [List.length_take, l0]; omega
    have l2 : (List.drop (j + 1) (L.map mk)).length = L.length - (j + 1) := by rw [List.length_drop, l0]
    rw [if_pos h, if_neg (show ¬ (j : Int) < 0 by omega), if_pos (show 0 ≤ (j : Int) by omega), l0, if_pos (show (j : Int) ≤ (L.length : Int) by omega), Option.bind_some, Int.toNat_natCast, List.length_nil, Nat.zero_add, l1, if_pos (show j < 8796093022208 by omega), Option.bind_some, List.nil_append, w1 j (by omega), if_pos (show 0 ≤ ((j + 1 : Nat) : Int) by omega), if_pos (show ((j + 1 : Nat) : Int) ≤ (L.length : Int) by omega), Option.bind_some, Int.toNat_natCast, l1, l2, if_pos (show j + (L.length - (j + 1)) < 8796093022208 by omega), if_pos (h4.1 h), del_at hn h (h3 h), List.map_append, List.map_take, List.map_drop]
  · have hni : id ∉ L.map (·.1) := fun hc => h (h4.2 hc)
    rw [if_neg h, if_pos (show ((-1 : Int)) < 0 by omega), if_neg hni, del_none hni]
theorem ins_place (p : En) : ∀ M : List En, ∃ j, j ≤ M.length ∧ (∀ q, q < j → bef (at' M q) p = true) ∧ (j < M.length → bef (at' M j) p = false) ∧ ins p M = M.take j ++ p :: M.drop j
  | [] => ⟨0, by simp, fun q h => by omega, fun h => absurd h (by simp), rfl⟩
  | x :: r => by
    cases hb : bef x p with
    | true =>
      obtain ⟨j, h1, h2, h3, h4⟩ := ins_place p r
      refine ⟨j + 1, by simp; omega, fun q hq => ?_, fun h => h3 (by simpa using h), ?_⟩
      · cases q with
        | zero => exact hb
        | succ q => exact h2 q (by omega)
      · unfold ins
        rw [if_pos hb, h4]
        rfl
    | false =>
      refine ⟨0, by simp, fun q h => by omega, fun _ => hb, ?_⟩
      unfold ins
      rw [if_neg (by rw [hb]; decide)]
      rfl
theorem put_l0 (M : List En) (hl : M.length ≤ 1000000) (id a : Int) (j : Nat) (hj : j ≤ M.length) (hb : ∀ q, q < j → bef (at' M q) (id, a) = true) (hn : j < M.length → bef (at' M j) (id, a) = false) :
    ∀ (m i : Nat), i ≤ j → j - i = m → titheref11_Put.l0 (2 * m + 2) (M.map mk) id a (i : Int) = some ((M.take j ++ (id, a) :: M.drop j).map mk, 0) := by
  have stop : ∀ k : Nat, titheref11_Put.j2 (k + 1) (M.map mk) id a (j : Int) false = some ((M.take j ++ (id, a) :: M.drop j).map mk, 0) := by
    intro k
    rw [titheref11_Put.j2, if_neg (by decide)]
    simp only [List.length_map, List.nil_append, Option.bind_some, List.length_nil, Nat.zero_add, Int.toNat_natCast, List.length_take, List.length_drop, List.length_append, List.length_cons]
    rw [if_pos (show 0 ≤ (j : Int) by omega), if_pos (show (j : Int) ≤ (M.length : Int) by omega), if_pos (by omega), if_pos (by omega), if_pos (by omega)]
    simp only [List.map_append, List.map_take, List.map_drop, List.map_cons, List.append_assoc, List.cons_append, List.nil_append]
    rfl
  intro m
  induction m with
  | zero =>
    intro i h1 h2
    have : i = j := by omega
    subst this
    rw [show 2 * 0 + 2 = (0 + 1) + 1 from rfl, titheref11_Put.l0]
    simp only [List.length_map]
    by_cases h : i < M.length
    · rw [if_pos (show (i : Int) < (M.length : Int) by omega), if_pos (show 0 ≤ (i : Int) by omega), rd_mk M h]
      have hbf := hn h
      have hx : ¬ ((at' M i).2 < a ∨ ((at' M i).2 = a ∧ (at' M i).1 < id)) := fun hc => by
        rw [(bef_iff (at' M i) (id, a)).2 hc] at hbf; cases hbf
      rw [if_neg (show ¬ (mk (at' M i)).f1 < a from fun hc => hx (Or.inl hc))]
      by_cases he : (mk (at' M i)).f1 = a
      · rw [if_pos he, decide_eq_false (show ¬ (mk (at' M i)).f0 < id from fun hc => hx (Or.inr ⟨he, hc⟩))]
        exact stop 0
      · rw [if_neg he]
        exact stop 0
    · rw [if_neg (show ¬ (i : Int) < (M.length : Int) by omega)]
      exact stop 0
  | succ m ih =>
    intro i h1 h2
    have h : i < M.length := by omega
    rw [show 2 * (m + 1) + 2 = (2 * m + 2 + 1) + 1 from rfl, titheref11_Put.l0]
    simp only [List.length_map]
    rw [if_pos (show (i : Int) < (M.length : Int) by omega), if_pos (show 0 ≤ (i : Int) by omega), rd_mk M h]
    have hbf := (bef_iff (at' M i) (id, a)).1 (hb i (by omega))
    have go : titheref11_Put.j2 (2 * m + 2 + 1) (M.map mk) id a (i : Int) true = some ((M.take j ++ (id, a) :: M.drop j).map mk, 0) := by
      rw [titheref11_Put.j2, if_pos rfl, w1 i (by omega)]
      exact ih (i + 1) (by omega) (by omega)
    by_cases hlt : (mk (at' M i)).f1 < a
    · rw [if_pos hlt]; exact go
    · have h3 : (at' M i).2 = a ∧ (at' M i).1 < id := by
        rcases hbf with h3 | h3
        · exact absurd h3 hlt
        · exact h3
      rw [if_neg hlt, if_pos (show (mk (at' M i)).f1 = a from h3.1), decide_eq_true (show (mk (at' M i)).f0 < id from h3.2)]
      exact go
theorem del_len (id : Int) (L : List En) : (del id L).length ≤ L.length := List.length_filter_le _ _
theorem put_f (L : List En) (hl : L.length ≤ 1000000) (hn : (L.map (·.1)).Nodup) (id a : Int) (h0 : 0 ≤ id) (h1 : 0 ≤ a) :
    Evt (fun k => titheref11_Put.f k (L.map mk) id a) ((ins (id, a) (del id L)).map mk, 0) := by
  obtain ⟨j, j1, j2, j3, j4⟩ := ins_place (id, a) (del id L)
  obtain ⟨K, hK⟩ := drop_f L hl hn id
  have hK2 : titheref11_Drop.f (K + (2 * j + 2)) (L.map mk) id = _ := hK (K + (2 * j + 2)) (by omega)
  have hdl := del_len id L
  have hp := put_l0 (del id L) (by omega) id a j j1 j2 j3 j 0 (by omega) (by omega)
  refine evt_of (titheref11_Put.mono _ _ _) (k0 := (K + (2 * j + 2)) + 1) ?_
  unfold titheref11_Put.f
  rw [if_neg (show ¬ id < 0 by omega), decide_eq_false (show ¬ a < 0 by omega), titheref11_Put.j0, if_neg (by decide), hK2, Option.bind_some, j4]
  have lift : ∀ d, titheref11_Put.l0 (2 * j + 2 + d) ((del id L).map mk) id a 0 = some ((List.take j (del id L) ++ (id, a) :: List.drop j (del id L)).map mk, 0) := by
    intro d
    induction d with
    | zero => exact hp
    | succ d ih => exact (titheref11_Put.mono_l (2 * j + 2 + d)).2.1 _ _ _ _ _ ih
  have := lift K
  rw [show 2 * j + 2 + K = K + (2 * j + 2) by omega] at this
  exact this
theorem due_l0 (till : Int) : ∀ (M pre : List En), (pre ++ M).length ≤ 1000000 → titheref11_Due.l0 (M.length + 1) ((pre ++ M).map mk) till (pre.length : Int) (pre.map (·.1)) = some ((restL M till).map mk, pre.map (·.1) ++ (dueL M till).map (·.1))
  | [], pre, hl => by
    rw [titheref11_Due.l0]
    simp only [List.append_nil, List.length_append, List.length_nil, Nat.add_zero] at hl
    simp only [List.append_nil, List.length_map, List.nil_append, List.length_nil, Nat.zero_add, Int.toNat_natCast, List.length_drop, Nat.sub_self]
    rw [if_neg (by omega), if_pos (by omega), if_pos (by omega)]
    simp only [Option.bind_some]
    rw [if_pos (by simp)]
    simp [restL, dueL]
  | x :: r, pre, hl => by
    have hlen : (pre ++ x :: r).length = pre.length + (r.length + 1) := by simp
    rw [hlen] at hl
    have hat : at' (pre ++ x :: r) pre.length = x := by unfold at'; simp
    rw [titheref11_Due.l0]
    simp only [List.length_map, List.length_cons]
    rw [if_pos (by rw [hlen]; omega), if_pos (by omega), rd_mk _ (by rw [hlen]; omega), hat]
    by_cases hx : x.2 ≤ till
    · rw [if_pos (show (mk x).f1 ≤ till from hx), if_pos (by omega), w1 _ (by omega)]
      have ih := due_l0 till r (pre ++ [x]) (by simp; omega)
      rw [List.append_assoc, List.singleton_append, List.length_append, List.length_singleton, List.map_append (l₁ := pre) (l₂ := [x])] at ih
      rw [show List.map (fun x => x.fst) pre ++ [(mk x).f0] = List.map (fun x => x.fst) pre ++ List.map (fun x => x.fst) [x] from rfl, ih]
      have e1 : restL (x :: r) till = restL r till := by unfold restL; rw [List.dropWhile_cons_of_pos (by simpa using hx)]
      have e2 : dueL (x :: r) till = x :: dueL r till := by unfold dueL; rw [List.takeWhile_cons_of_pos (by simpa using hx)]
      rw [e1, e2]
      simp
    · rw [if_neg (show ¬ (mk x).f1 ≤ till from hx), if_pos (by rw [hlen]; omega)]
      simp only [Int.toNat_natCast, Option.bind_some, List.length_nil, Nat.zero_add, List.nil_append, List.length_drop, List.length_map]
      rw [if_pos (by rw [hlen]; omega)]
      have e1 : restL (x :: r) till = x :: r := by unfold restL; rw [List.dropWhile_cons_of_neg (by simpa using hx)]
      have e2 : dueL (x :: r) till = [] := by unfold dueL; rw [List.takeWhile_cons_of_neg (by simpa using hx)]
      rw [e1, e2]
      simp [← List.map_drop]
theorem due_f (L : List En) (hl : L.length ≤ 1000000) (till : Int) : Evt (fun k => titheref11_Due.f k (L.map mk) till) ((restL L till).map mk, (dueL L till).map (·.1)) := by
  have h := due_l0 till L [] (by simpa using hl)
  simp only [List.nil_append, List.length_nil, List.map_nil] at h
  exact evt_of (titheref11_Due.mono _ _) (k0 := L.length + 1) h
end Go.Proofs.YtfmchkplnglepaaDoor.R11
