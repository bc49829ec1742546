/- Small words on a map of numbers to numbers that a call owns: a store in two steps at a key that is there; what such a map holds, told by a list of different numbers. No conditions. -/
import Derived.Maps.OwnSet
import Derived.WideKeyEntry
namespace Go.Proofs.Ytfmchkplnglepaa.Hp
open Go Go.Maps Go.WideElems Go.ChangeMaps Go.ChangeShapes Go.WideShapes Go.MapKept
set_option linter.unusedVariables false
set_option linter.unusedSimpArgs false
theorem setBlock_self {w : World} {b : Nat} {o : Obj} (h : w.heap[b]? = some o) : setBlock w b o = w := by
  have hl := (Array.getElem?_eq_some_iff.1 h)
  obtain ⟨hlt, he⟩ := hl
  have : w.heap.setIfInBounds b o = w.heap := by
    apply Array.ext'
    rw [Array.toList_setIfInBounds]
    exact set_self _ _ _ (by rw [Array.getElem?_toList]; exact h)
  unfold setBlock
  rw [this]
section
variable {H : Type} {P : Program} {w : World} {t k e : TypeId} {R : Value → Option (DataW H × List MemPlace)} {b n : Nat} {D : DataW H}
/-- m[k] = v in two steps (m[k], .. = v, ..), at a key that is there -/
theorem own_entry (h : w.ownsMap P k R b n D) (K : Keyed P k) (ht : P.underlying t = some (.map k e)) {z : Value} (hz : (zeroValue e).run P w = .ok z w) {zd : DataW H} {zp : List MemPlace} (hzd : R z = some (zd, zp))
    {key val : Value} {kl : Lit} (hkey : keyOf P k key = some kl) (hh : Maps.has D kl = true) {d : DataW H} {ps : List MemPlace} (hv : R val = some (d, ps)) (hn : n < maxLen) :
    ∃ (v0 : Value) (st : Nat), (Instr.mapEntry t (.map (some b)) key).run P w = .ok (.tuple #[v0, goInt st]) w ∧
      ∃ w', (Instr.entryStore t (.map (some b)) (goInt st) val).run P w = .ok () w' ∧ w'.ownsMap P k R b (n + 1) (D.put kl d) ∧ w.grownBy w' (some b) := by
  obtain ⟨wu, hup, hown, hgr⟩ := h.update K ht hn hkey hv
  obtain ⟨v, ps2, hlook, _⟩ := h.look_ok K ht hz hzd hkey
  rw [hh] at hlook
  have h' := h
  obtain ⟨es, clock, hb, F, hs, hD⟩ := h
  rcases Maps.fit_look true K ht hz hb F hkey with ⟨hrun, _, _⟩ | ⟨x0, y, hx0, hxk, hrun, _⟩
  · rw [hlook] at hrun
    simp at hrun
  obtain ⟨s1, s2, _⟩ := F.stamped
  rcases K.find w hkey es.toList F.keys with ⟨h1, h2⟩ | ⟨j, e0, h1, h2, h3⟩
  · exact absurd hxk (h2 x0 hx0)
  have hj : es[j]? = some e0 := by simpa using h2
  have hsame : es.modify j (fun e => { e with key := key }) = es := by
    apply Array.ext'
    rw [Array.toList_modify, modify_eq_set _ _ _ _ h2]
    have : ({ e0 with key := key } : MapEntry) = e0 := by rw [← h3]
    rw [this]
    exact set_self _ _ _ h2
  have hidx : es.findIdx? (fun e => ((e.born : Nat) : Int) == ((e0.born : Nat) : Int)) = some j := by
    rw [findIdx_arr]
    exact findIdx_born s2 h2
  have hmod : es.modify j (fun e => { e with val := val }) = es.modify j (fun e' => { e' with key := key, val := val }) := by
    apply Array.ext'
    rw [Array.toList_modify, Array.toList_modify, modify_eq_set _ _ _ _ h2, modify_eq_set _ _ _ _ h2, ← h3]
  refine ⟨e0.val, e0.born, ?_, wu, ?_, hown, hgr⟩
  · have e1 := setBlock_self hb
    unfold setBlock at e1
    simp [Instr.mapEntry, run_underlying ht, MapKept.run_getObj_map hb, K.check w false hkey, h1, hj, h3, K.stays w hkey, hsame, MapKept.run_setObj_map _ hb, Result.andThen, e1]
  · have e2 : (Instr.mapUpdate t (.map (some b)) key val).run P w = .ok () (setBlock w b (.map (es.modify j (fun e' => { e' with key := key, val := val })) clock)) := by
      simp [Instr.mapUpdate, run_underlying ht, MapKept.run_getObj_map hb, K.check w false hkey, h1, hj, h3, K.stays w hkey, MapKept.run_setObj_map _ hb, Result.andThen, setBlock]
    rw [hup] at e2
    have e3 : wu = setBlock w b (.map (es.modify j (fun e' => { e' with key := key, val := val })) clock) := by injection e2
    rw [e3]
    simp [Instr.entryStore, MapKept.run_getObj_map hb, asInt, asIntOf, goInt, hidx, hmod, MapKept.run_setObj_map _ hb, Result.andThen, setBlock]
/-- the bound on the entries is how many there are -/
theorem own_tight (h : w.ownsMap P k R b n D) : w.ownsMap P k R b (Maps.size D) D := by
  obtain ⟨es, clock, hb, F, hs, rfl⟩ := h
  refine ⟨es, clock, hb, F, ?_, rfl⟩
  rw [size_eq, length_sorted]; simp
end
/-- the number k's literal -/
def lk (k : Int) : Lit := .int .i64 k
def z0 : DataW Unit := .lit (.int .i64 0)
/-- the map holds just these numbers, each with its place -/
structure MapOk (ids : List Int) (D : DataW Unit) : Prop where
  tidy : Tidy D
  sz : Maps.size D = ids.length
  hit : ∀ i : Nat, i < ids.length → D.atKey (lk (ids.getD i 0)) z0 = .lit (.int .i64 (i : Int)) ∧ Maps.has D (lk (ids.getD i 0)) = true
  miss : ∀ k : Int, k ∉ ids → Maps.has D (lk k) = false
theorem isKey_lk (k : Int) : WideAt.IsKeyLit (lk k) := by unfold lk; trivial
theorem lk_ne {a b : Int} (h : a ≠ b) : lk a ≠ lk b := by intro e; unfold lk at e; injection e with _ e; exact h e
theorem MapOk.nodup {ids : List Int} {D : DataW Unit} (h : MapOk ids D) {i j : Nat} (hi : i < ids.length) (hj : j < ids.length) (e : ids.getD i 0 = ids.getD j 0) : i = j := by
  have a := (h.hit i hi).1
  have b := (h.hit j hj).1
  rw [e, b] at a
  injection a with a
  injection a with _ a
  omega
theorem mapOk_nil : MapOk [] (.map [] : DataW Unit) := ⟨tidy_empty, rfl, fun i hi => absurd hi (by simp), fun k _ => rfl⟩
theorem getD_mem {ids : List Int} {i : Nat} (h : i < ids.length) : ids.getD i 0 ∈ ids := by
  rw [List.getD_eq_getElem?_getD, List.getElem?_eq_getElem h]; exact List.getElem_mem h
theorem MapOk.has_mem {ids : List Int} {D : DataW Unit} (h : MapOk ids D) (k : Int) : Maps.has D (lk k) = decide (k ∈ ids) := by
  by_cases hk : k ∈ ids
  · obtain ⟨i, hi, e⟩ := List.getElem_of_mem hk
    have e2 : ids.getD i 0 = k := by rw [List.getD_eq_getElem?_getD, List.getElem?_eq_getElem hi]; exact e
    have := (h.hit i hi).2
    rw [e2] at this
    rw [this, decide_eq_true hk]
  · rw [h.miss k hk, decide_eq_false hk]
/-- two places changed -/
theorem MapOk.swap {ids : List Int} {D : DataW Unit} (h : MapOk ids D) {i j : Nat} (hi : i < ids.length) (hj : j < ids.length) :
    MapOk ((ids.set i (ids.getD j 0)).set j (ids.getD i 0)) ((D.put (lk (ids.getD j 0)) (.lit (.int .i64 (i : Int)))).put (lk (ids.getD i 0)) (.lit (.int .i64 (j : Int)))) := by
  have t1 := h.tidy.put (isKey_lk (ids.getD j 0)) (.lit (.int .i64 (i : Int)))
  have ge : ∀ m : Nat, ((ids.set i (ids.getD j 0)).set j (ids.getD i 0)).getD m 0 = if j = m ∧ m < ids.length then ids.getD i 0 else if i = m ∧ m < ids.length then ids.getD j 0 else ids.getD m 0 := by
    intro m
    simp only [List.getD_eq_getElem?_getD, List.getElem?_set, List.length_set]
    by_cases hm : m < ids.length
    · by_cases h1 : j = m
      · subst h1; simp [hm]
      · by_cases h2 : i = m
        · subst h2; simp [h1, hm]
        · simp [h1, h2]
    · have h1 : j ≠ m := by omega
      have h2 : i ≠ m := by omega
      simp [h1, h2]
  refine ⟨t1.put (isKey_lk _) _, ?_, ?_, ?_⟩
  · rw [size_put t1, size_put h.tidy, (h.hit j hj).2]
    have : Maps.has (D.put (lk (ids.getD j 0)) (.lit (.int .i64 (i : Int)))) (lk (ids.getD i 0)) = true := by
      by_cases e : ids.getD i 0 = ids.getD j 0
      · rw [e]; exact has_put_same h.tidy.isMap (isKey_lk _) _
      · rw [has_put_other (lk_ne e)]; exact (h.hit i hi).2
    rw [this]; simp [h.sz]
  · intro m hm
    simp only [List.length_set] at hm
    rw [ge m]
    by_cases h1 : j = m
    · subst h1
      rw [if_pos ⟨rfl, hm⟩]
      exact ⟨atKey_put_same t1.isMap (isKey_lk _) _ _, has_put_same t1.isMap (isKey_lk _) _⟩
    · rw [if_neg (by omega)]
      by_cases h2 : i = m
      · subst h2
        rw [if_pos ⟨rfl, hm⟩]
        have ne : ids.getD j 0 ≠ ids.getD i 0 := fun e => h1 (h.nodup hj hi e)
        rw [atKey_put_other (lk_ne ne), has_put_other (lk_ne ne)]
        exact ⟨atKey_put_same h.tidy.isMap (isKey_lk _) _ _, has_put_same h.tidy.isMap (isKey_lk _) _⟩
      · rw [if_neg (by omega)]
        have n1 : ids.getD m 0 ≠ ids.getD i 0 := fun e => h2 (h.nodup hi hm e.symm)
        have n2 : ids.getD m 0 ≠ ids.getD j 0 := fun e => h1 (h.nodup hj hm e.symm)
        rw [atKey_put_other (lk_ne n1), has_put_other (lk_ne n1), atKey_put_other (lk_ne n2), has_put_other (lk_ne n2)]
        exact h.hit m hm
  · intro k hk
    have hk2 : k ∉ ids := by
      intro hc
      apply hk
      obtain ⟨m, hm, e⟩ := List.getElem_of_mem hc
      have e2 : ids.getD m 0 = k := by rw [List.getD_eq_getElem?_getD, List.getElem?_eq_getElem hm]; exact e
      by_cases h1 : j = m
      · subst h1
        have := ge i
        by_cases h3 : i = j
        · subst h3
          rw [if_pos ⟨rfl, hi⟩] at this
          have g := getD_mem (ids := ids.set i (ids.getD i 0) |>.set i (ids.getD i 0)) (i := i) (by simpa using hi)
          rw [this] at g; rw [← e2]; exact g
        · rw [if_neg (by omega), if_pos ⟨rfl, hi⟩] at this
          have g := getD_mem (ids := ((ids.set i (ids.getD j 0)).set j (ids.getD i 0))) (i := i) (by simpa using hi)
          rw [this] at g; rw [← e2]; exact g
      · by_cases h2 : i = m
        · subst h2
          have := ge j
          rw [if_pos ⟨rfl, hj⟩] at this
          have g := getD_mem (ids := ((ids.set i (ids.getD j 0)).set j (ids.getD i 0))) (i := j) (by simpa using hj)
          rw [this] at g; rw [← e2]; exact g
        · have := ge m
          rw [if_neg (by omega), if_neg (by omega)] at this
          have g := getD_mem (ids := ((ids.set i (ids.getD j 0)).set j (ids.getD i 0))) (i := m) (by simpa using hm)
          rw [this] at g; rw [← e2]; exact g
    have n1 : k ≠ ids.getD i 0 := fun e => hk2 (e ▸ getD_mem hi)
    have n2 : k ≠ ids.getD j 0 := fun e => hk2 (e ▸ getD_mem hj)
    rw [has_put_other (lk_ne n1), has_put_other (lk_ne n2)]
    exact h.miss k hk2
/-- one more, at the end -/
theorem MapOk.push {ids : List Int} {D : DataW Unit} (h : MapOk ids D) {k : Int} (hk : k ∉ ids) : MapOk (ids ++ [k]) (D.put (lk k) (.lit (.int .i64 (ids.length : Int)))) := by
  refine ⟨h.tidy.put (isKey_lk _) _, ?_, ?_, ?_⟩
  · rw [size_put h.tidy, h.miss k hk, h.sz]; simp
  · intro m hm
    by_cases h1 : m < ids.length
    · have e : (ids ++ [k]).getD m 0 = ids.getD m 0 := by
        rw [List.getD_eq_getElem?_getD, List.getElem?_append_left h1, ← List.getD_eq_getElem?_getD]
      have ne : ids.getD m 0 ≠ k := fun e => hk (e ▸ getD_mem h1)
      rw [e, atKey_put_other (lk_ne ne), has_put_other (lk_ne ne)]
      exact h.hit m h1
    · have h2 : m = ids.length := by simp at hm; omega
      subst h2
      have e : (ids ++ [k]).getD ids.length 0 = k := by simp [List.getD_eq_getElem?_getD]
      rw [e]
      exact ⟨atKey_put_same h.tidy.isMap (isKey_lk _) _ _, has_put_same h.tidy.isMap (isKey_lk _) _⟩
  · intro x hx
    have n1 : x ≠ k := fun e => hx (by rw [e]; simp)
    rw [has_put_other (lk_ne n1)]
    exact h.miss x (fun hc => hx (List.mem_append_left _ hc))
/-- the last one struck -/
theorem MapOk.pop {ids : List Int} {D : DataW Unit} (h : MapOk ids D) (hl : 0 < ids.length) : MapOk (ids.take (ids.length - 1)) (D.del (lk (ids.getD (ids.length - 1) 0))) := by
  have e : ∀ m, m < ids.length - 1 → (ids.take (ids.length - 1)).getD m 0 = ids.getD m 0 := fun m hm => by
    rw [List.getD_eq_getElem?_getD, List.getElem?_take, if_pos hm, ← List.getD_eq_getElem?_getD]
  refine ⟨h.tidy.del _, ?_, ?_, ?_⟩
  · have := size_del h.tidy (k := lk (ids.getD (ids.length - 1) 0))
    rw [(h.hit (ids.length - 1) (by omega)).2, h.sz] at this
    simp at this ⊢
    omega
  · intro m hm
    have hm2 : m < ids.length - 1 := by simp at hm; omega
    have ne : ids.getD m 0 ≠ ids.getD (ids.length - 1) 0 := fun e => by have := h.nodup (by omega) (by omega) e; omega
    rw [e m hm2, atKey_del_other (lk_ne ne), has_del_other (lk_ne ne)]
    exact h.hit m (by omega)
  · intro k hk
    by_cases hc : k = ids.getD (ids.length - 1) 0
    · rw [hc]; exact has_del_same
    · rw [has_del_other (lk_ne hc)]
      refine h.miss k (fun hm => ?_)
      obtain ⟨m, hm, e2⟩ := List.getElem_of_mem hm
      have e3 : ids.getD m 0 = k := by rw [List.getD_eq_getElem?_getD, List.getElem?_eq_getElem hm]; exact e2
      by_cases h1 : m = ids.length - 1
      · subst h1; exact hc e3.symm
      · apply hk
        rw [← e3, ← e m (by omega)]
        exact getD_mem (by simp; omega)
end Go.Proofs.Ytfmchkplnglepaa.Hp
