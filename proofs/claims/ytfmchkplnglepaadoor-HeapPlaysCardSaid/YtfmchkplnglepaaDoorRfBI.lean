/- The document's list (titheref05), in plain Lean: what its functions answer at the sorted list of a heap (chapter 5). No conditions. -/
import Derived.Test.YtfmchkplnglepaaDoorHpDropI
import Derived.Test.YtfmchkplnglepaaDoorQx42
import Derived.Test.YtfmchkplnglepaaDoorQx43
import Derived.Test.YtfmchkplnglepaaDoorQx46
import Derived.Test.YtfmchkplnglepaaDoorQx69
import Derived.Test.YtfmchkplnglepaaDoorQx45
import Derived.Test.YtfmchkplnglepaaDoorQx47
import Derived.Test.YtfmchkplnglepaaDoorAid
namespace Go.Proofs.YtfmchkplnglepaaDoor.R05
open Go.RowKit Go.Proofs.YtfmchkplnglepaaDoorW.PrintWords Go.Proofs.YtfmchkplnglepaaDoorW.PrintLast Go.Proofs.YtfmchkplnglepaaDoorW.PrintMore
open Go Go.Proofs.YtfmchkplnglepaaDoor.Hp Go.Proofs.YtfmchkplnglepaaDoor.HpI Go.Proofs.YtfmchkplnglepaaDoor.Q Tithe
set_option linter.unusedVariables false
set_option linter.unusedSimpArgs false
def mk (e : En) : S89 := ⟨e.1, e.2⟩
theorem evt_of {α : Type} {g : Nat → Option α} {r : α} (hm : ∀ k, LeO (g k) (g (k + 1))) {k0 : Nat} (h : g k0 = some r) : Evt g r := by
  refine ⟨k0, fun k hk => ?_⟩
  obtain ⟨d, rfl⟩ : ∃ d, k = k0 + d := ⟨k - k0, by omega⟩
  clear hk
  induction d with
  | zero => exact h
  | succ d ih => exact hm _ _ ih
theorem rd_mk (L : List En) {i : Nat} (hi : i < L.length) : rd_T89 (L.map mk) (i : Int) = mk (at' L i) := by
  unfold rd_T89 at'
  rw [Int.toNat_natCast, List.getD_eq_getElem?_getD, List.getElem?_map, List.getD_eq_getElem?_getD, List.getElem?_eq_getElem hi]
  rfl
theorem find_l0 (L : List En) (hl : L.length ≤ 1000000) (id : Int) (j : Nat) (hj : j ≤ L.length) (hno : ∀ p, p < j → (at' L p).1 ≠ id) (hat : j < L.length → (at' L j).1 = id) :
    ∀ (m i : Nat), i ≤ j → j - i = m → titheref05_place.l0 (m + 1) (L.map mk) id (i : Int) = some (if j < L.length then (j : Int) else -1) := by
  intro m
  induction m with
  | zero =>
    intro i h1 h2
    have : i = j := by omega
    subst this
    simp only [titheref05_place.l0, List.length_map]
    by_cases h : i < L.length
    · rw [if_pos (show (i : Int) < (L.length : Int) by omega), if_pos (show 0 ≤ (i : Int) by omega), rd_mk L h, if_pos (show (mk (at' L i)).f0 = id from hat h), if_pos h]
    · rw [if_neg (show ¬ (i : Int) < (L.length : Int) by omega), if_neg h]
  | succ m ih =>
    intro i h1 h2
    have h : i < L.length := by omega
    rw [titheref05_place.l0]
    simp only [List.length_map]
    rw [if_pos (show (i : Int) < (L.length : Int) by omega), if_pos (show 0 ≤ (i : Int) by omega), rd_mk L h, if_neg (show ¬ (mk (at' L i)).f0 = id from hno i (by omega)), w1 i (by omega)]
    exact ih (i + 1) (by omega) (by omega)
/-- the first place of a number; the length: nowhere -/
theorem place_ex (L : List En) (id : Int) : ∃ j, j ≤ L.length ∧ (∀ p, p < j → (at' L p).1 ≠ id) ∧ (j < L.length → (at' L j).1 = id) ∧ (j < L.length ↔ id ∈ L.map (·.1)) := by
  induction L with
  | nil => exact ⟨0, by simp, fun p h => by omega, fun h => absurd h (by simp), by simp⟩
  | cons x r ih =>
    by_cases hx : x.1 = id
    · exact ⟨0, by simp, fun p h => by omega, fun _ => hx, by simp [hx]⟩
    · obtain ⟨j, h1, h2, h3, h4⟩ := ih
      refine ⟨j + 1, by simp; omega, fun p hp => ?_, fun h => h3 (by simpa using h), ?_⟩
      · cases p with
        | zero => exact hx
        | succ p => exact h2 p (by omega)
      · simp only [List.length_cons, Nat.add_lt_add_iff_right, List.map_cons, List.mem_cons, h4]
        constructor
        · exact Or.inr
        · rintro (h | h)
          · exact absurd h.symm hx
          · exact h
theorem find_f (L : List En) (hl : L.length ≤ 1000000) (id : Int) (j : Nat) (hj : j ≤ L.length) (hno : ∀ p, p < j → (at' L p).1 ≠ id) (hat : j < L.length → (at' L j).1 = id) :
    Evt (fun k => titheref05_place.f k (L.map mk) id) (if j < L.length then (j : Int) else -1) :=
  evt_of (titheref05_place.mono _ _) (k0 := j + 1) (find_l0 L hl id j hj hno hat j 0 (by omega) (by omega))
theorem del_at {L : List En} (hn : (L.map (·.1)).Nodup) {id : Int} {j : Nat} (hj : j < L.length) (hje : (at' L j).1 = id) : del id L = L.take j ++ L.drop (j + 1) := by
  have e : L[j] = at' L j := by unfold at'; rw [getD_eq hj]
  have h0 : L = L.take j ++ L[j] :: L.drop (j + 1) := by rw [← List.drop_eq_getElem_cons hj, List.take_append_drop]
  have hn2 := hn
  rw [h0, List.map_append, List.map_cons, e, hje] at hn2
  have h5 := List.nodup_append.1 hn2
  have h6 := List.nodup_cons.1 h5.2.1
  have a1 : (L.take j).filter (fun e => e.1 != id) = L.take j := List.filter_eq_self.2 fun x hx => by
    simp only [bne_iff_ne, ne_eq]
    exact fun e2 => h5.2.2 x.1 (List.mem_map_of_mem hx) id (List.mem_cons_self ..) e2
  have a2 : (L.drop (j + 1)).filter (fun e => e.1 != id) = L.drop (j + 1) := List.filter_eq_self.2 fun x hx => by
    simp only [bne_iff_ne, ne_eq]
    exact fun e2 => h6.1 (e2 ▸ List.mem_map_of_mem hx)
  conv => lhs; rw [h0]
  unfold del
  rw [List.filter_append, List.filter_cons_of_neg (by rw [e, hje]; simp), a1, a2]
theorem drop_f (L : List En) (hl : L.length ≤ 1000000) (hn : (L.map (·.1)).Nodup) (id : Int) :
    Evt (fun k => titheref05_Drop.f k (L.map mk) id) ((del id L).map mk, if id ∈ L.map (·.1) then 0 else 50) := by
  obtain ⟨j, h1, h2, h3, h4⟩ := place_ex L id
  have hf := find_f L hl id j h1 h2 h3
  obtain ⟨K, hK⟩ := hf
  refine ⟨K, fun k hk => ?_⟩
  have e := hK k hk
  simp only at e
  show titheref05_Drop.f k (L.map mk) id = some _
  rw [titheref05_Drop.f, e, Option.bind_some]
  clear e hK hk
  by_cases h : j < L.length
  · have l0 : (L.map mk).length = L.length := List.length_map ..
    have l1 : (List.take j (L.map mk)).length = j := by rw [List.length_take, l0]; omega
    have l2 : (List.drop (j + 1) (L.map mk)).length = L.length - (j + 1) := by rw [List.length_drop, l0]
    rw [if_pos h, if_neg (show ¬ (j : Int) < 0 by omega), if_pos (show 0 ≤ (j : Int) by omega), l0, if_pos (show (j : Int) ≤ (L.length : Int) by omega), Option.bind_some, Int.toNat_natCast, List.length_nil, Nat.zero_add, l1, if_pos (show j < 8796093022208 by omega), Option.bind_some, List.nil_append, w1 j (by omega), if_pos (show 0 ≤ ((j + 1 : Nat) : Int) by omega), if_pos (show ((j + 1 : Nat) : Int) ≤ (L.length : Int) by omega), Option.bind_some, Int.toNat_natCast, l1, l2, if_pos (show j + (L.length - (j + 1)) < 8796093022208 by omega), if_pos (h4.1 h), del_at hn h (h3 h), List.map_append, List.map_take, List.map_drop]
  · have hni : id ∉ L.map (·.1) := fun hc => h (h4.2 hc)
    rw [if_neg h, if_pos (show ((-1 : Int)) < 0 by omega), if_neg hni, del_none hni]
theorem ins_place (p : En) : ∀ M : List En, ∃ j, j ≤ M.length ∧ (∀ q, q < j → bef (at' M q) p = true) ∧ (j < M.length → bef (at' M j) p = false) ∧ ins p M = M.take j ++ p :: M.drop j
  | [] => ⟨0, by simp, fun q h => by omega, fun h => absurd h (by simp), rfl⟩
  | x :: r => by
    cases hb : bef x p with
    | true =>
      obtain ⟨j, h1, h2, h3, h4⟩ := ins_place p r
      refine ⟨j + 1, by simp; omega, fun q hq => ?_, fun h => h3 (by simpa using h), ?_⟩
      · cases q with
        | zero => exact hb
        | succ q => exact h2 q (by omega)
      · unfold ins
        rw [if_pos hb, h4]
        rfl
    | false =>
      refine ⟨0, by simp, fun q h => by omega, fun _ => hb, ?_⟩
      unfold ins
      rw [if_neg (by rw [hb]; decide)]
      rfl
theorem put_l0 (M : List En) (hl : M.length ≤ 1000000) (id a : Int) (j : Nat) (hj : j ≤ M.length) (hb : ∀ q, q < j → bef (at' M q) (id, a) = true) (hn : j < M.length → bef (at' M j) (id, a) = false) :
    ∀ (m i : Nat), i ≤ j → j - i = m → titheref05_Push.l0 (2 * m + 2) (M.map mk) id a (i : Int) = some ((M.take j ++ (id, a) :: M.drop j).map mk, 0) := by
  have stop : ∀ k : Nat, titheref05_Push.j1 (k + 1) (M.map mk) id a (j : Int) false = some ((M.take j ++ (id, a) :: M.drop j).map mk, 0) := by
    intro k
    rw [titheref05_Push.j1, if_neg (by decide)]
    simp only [List.length_map, List.nil_append, Option.bind_some, List.length_nil, Nat.zero_add, Int.toNat_natCast, List.length_take, List.length_drop, List.length_append, List.length_cons]
    rw [if_pos (show 0 ≤ (j : Int) by omega), if_pos (show (j : Int) ≤ (M.length : Int) by omega), if_pos (by omega), if_pos (by omega), if_pos (by omega)]
    simp only [List.map_append, List.map_take, List.map_drop, List.map_cons, List.append_assoc, List.cons_append, List.nil_append]
    rfl
  intro m
  induction m with
  | zero =>
    intro i h1 h2
    have : i = j := by omega
    subst this
    rw [show 2 * 0 + 2 = (0 + 1) + 1 from rfl, titheref05_Push.l0]
    simp only [List.length_map]
    by_cases h : i < M.length
    · rw [if_pos (show (i : Int) < (M.length : Int) by omega), if_pos (show 0 ≤ (i : Int) by omega), rd_mk M h]
      have hbf := hn h
      have hx : ¬ ((at' M i).2 < a ∨ ((at' M i).2 = a ∧ (at' M i).1 < id)) := fun hc => by
        rw [(bef_iff (at' M i) (id, a)).2 hc] at hbf; cases hbf
      rw [if_neg (show ¬ (mk (at' M i)).f1 < a from fun hc => hx (Or.inl hc))]
      by_cases he : (mk (at' M i)).f1 = a
      · rw [if_pos he, decide_eq_false (show ¬ (mk (at' M i)).f0 < id from fun hc => hx (Or.inr ⟨he, hc⟩))]
        exact stop 0
      · rw [if_neg he]
        exact stop 0
    · rw [if_neg (show ¬ (i : Int) < (M.length : Int) by omega)]
      exact stop 0
  | succ m ih =>
    intro i h1 h2
    have h : i < M.length := by omega
    rw [show 2 * (m + 1) + 2 = (2 * m + 2 + 1) + 1 from rfl, titheref05_Push.l0]
    simp only [List.length_map]
    rw [if_pos (show (i : Int) < (M.length : Int) by omega), if_pos (show 0 ≤ (i : Int) by omega), rd_mk M h]
    have hbf := (bef_iff (at' M i) (id, a)).1 (hb i (by omega))
    have go : titheref05_Push.j1 (2 * m + 2 + 1) (M.map mk) id a (i : Int) true = some ((M.take j ++ (id, a) :: M.drop j).map mk, 0) := by
      rw [titheref05_Push.j1, if_pos rfl, w1 i (by omega)]
      exact ih (i + 1) (by omega) (by omega)
    by_cases hlt : (mk (at' M i)).f1 < a
    · rw [if_pos hlt]; exact go
    · have h3 : (at' M i).2 = a ∧ (at' M i).1 < id := by
        rcases hbf with h3 | h3
        · exact absurd h3 hlt
        · exact h3
      rw [if_neg hlt, if_pos (show (mk (at' M i)).f1 = a from h3.1), decide_eq_true (show (mk (at' M i)).f0 < id from h3.2)]
      exact go
theorem del_len (id : Int) (L : List En) : (del id L).length ≤ L.length := List.length_filter_le _ _
theorem put_f (L : List En) (hl : L.length ≤ 1000000) (id a : Int) : Evt (fun k => titheref05_Push.f k (L.map mk) id a) (if id ∈ L.map (·.1) then (L.map mk, 1) else ((ins (id, a) L).map mk, 0)) := by
  obtain ⟨p, p1, p2, p3, p4⟩ := place_ex L id
  obtain ⟨K, hK⟩ := find_f L hl id p p1 p2 p3
  by_cases h : p < L.length
  · refine ⟨K, fun k hk => ?_⟩
    have e : titheref05_place.f k (L.map mk) id = _ := hK k hk
    show titheref05_Push.f k (L.map mk) id a = _
    rw [titheref05_Push.f, e, Option.bind_some, if_pos h, if_pos (show (p : Int) ≥ 0 by omega), if_pos (p4.1 h)]
  · obtain ⟨j, j1, j2, j3, j4⟩ := ins_place (id, a) L
    have hp := put_l0 L hl id a j j1 j2 j3 j 0 (by omega) (by omega)
    have e : titheref05_place.f (K + (2 * j + 2)) (L.map mk) id = _ := hK (K + (2 * j + 2)) (by omega)
    refine evt_of (titheref05_Push.mono _ _ _) (k0 := K + (2 * j + 2)) ?_
    have lift : ∀ d, titheref05_Push.l0 (2 * j + 2 + d) (L.map mk) id a 0 = some ((List.take j L ++ (id, a) :: List.drop j L).map mk, 0) := by
      intro d
      induction d with
      | zero => exact hp
      | succ d ih => exact (titheref05_Push.mono_l (2 * j + 2 + d)).1 _ _ _ _ _ ih
    have h2 := lift K
    rw [show 2 * j + 2 + K = K + (2 * j + 2) by omega] at h2
    rw [titheref05_Push.f, e, Option.bind_some, if_neg h, if_neg (show ¬ ((-1 : Int)) ≥ 0 by omega), h2, if_neg (fun hc => h (p4.2 hc)), j4]
theorem key_f (L : List En) (hl : L.length ≤ 1000000) (hn : (L.map (·.1)).Nodup) (id : Int) : Evt (fun k => titheref05_Key.f k (L.map mk) id) (keyL id L) := by
  obtain ⟨j, h1, h2, h3, h4⟩ := place_ex L id
  obtain ⟨K, hK⟩ := find_f L hl id j h1 h2 h3
  refine ⟨K, fun k hk => ?_⟩
  have e : titheref05_place.f k (L.map mk) id = _ := hK k hk
  show titheref05_Key.f k (L.map mk) id = _
  rw [titheref05_Key.f, e, Option.bind_some]
  by_cases h : j < L.length
  · rw [if_pos h, if_neg (show ¬ (j : Int) < 0 by omega), if_pos (show 0 ≤ (j : Int) by omega), List.length_map, if_pos (show (j : Int) < (L.length : Int) by omega), rd_mk L h, ← h3 h, keyL_some hn (e := at' L j) (getD_mem' h)]
    rfl
  · rw [if_neg h, if_pos (show ((-1 : Int)) < 0 by omega), keyL_none (fun hc => h (h4.2 hc))]
theorem ids_l0 : ∀ (M pre : List En), (pre ++ M).length ≤ 1000000 → tithelaw05_ids.l0 (M.length + 1) ((pre ++ M).map mk) (pre.map (·.1)) (pre.length : Int) = some ((pre ++ M).map (·.1))
  | [], pre, hl => by
    rw [tithelaw05_ids.l0]
    simp only [List.append_nil, List.length_map]
    rw [if_neg (by omega)]
  | x :: r, pre, hl => by
    have hlen : (pre ++ x :: r).length = pre.length + (r.length + 1) := by simp
    rw [hlen] at hl
    have hat : at' (pre ++ x :: r) pre.length = x := by unfold at'; simp
    rw [tithelaw05_ids.l0]
    simp only [List.length_map, List.length_cons]
    rw [if_pos (by rw [hlen]; omega), if_pos (by omega), rd_mk _ (by rw [hlen]; omega), hat, if_pos (by omega), w1 _ (by omega)]
    have ih := ids_l0 r (pre ++ [x]) (by simp; omega)
    rw [List.append_assoc, List.singleton_append, List.length_append, List.length_singleton, List.map_append (l₁ := pre) (l₂ := [x])] at ih
    rw [show List.map (fun x => x.fst) pre ++ [(mk x).f0] = List.map (fun x => x.fst) pre ++ List.map (fun x => x.fst) [x] from rfl, ih]
theorem ids_f (L : List En) (hl : L.length ≤ 1000000) : Evt (fun k => tithelaw05_ids.f k (L.map mk)) (L.map (·.1)) := by
  have h := ids_l0 L [] (by simpa using hl)
  simp only [List.nil_append, List.length_nil, List.map_nil] at h
  refine ⟨L.length + 1, fun k hk => ?_⟩
  obtain ⟨d, rfl⟩ : ∃ d, k = L.length + 1 + d := ⟨k - (L.length + 1), by omega⟩
  clear hk
  show tithelaw05_ids.f (L.length + 1 + d) (L.map mk) = _
  unfold tithelaw05_ids.f
  induction d with
  | zero => exact h
  | succ d ih => exact (tithelaw05_ids.mono_l (L.length + 1 + d)) _ _ _ _ ih
theorem first_f (L : List En) : tithelaw05_first.f (L.map mk) = some ((first3 L).1, (first3 L).2.1, (first3 L).2.2) := by
  unfold tithelaw05_first.f
  cases L with
  | nil => rfl
  | cons x r =>
    have := rd_mk (x :: r) (i := 0) (by simp)
    rw [show ((0 : Nat) : Int) = 0 from rfl] at this
    rw [List.length_map, if_neg (show ¬ (((x :: r).length : Nat) : Int) = 0 by have : (x :: r).length = r.length + 1 := rfl; omega), if_pos (show 0 < (((x :: r).length : Nat) : Int) by have : (x :: r).length = r.length + 1 := rfl; omega), this]
    rfl
end Go.Proofs.YtfmchkplnglepaaDoor.R05
