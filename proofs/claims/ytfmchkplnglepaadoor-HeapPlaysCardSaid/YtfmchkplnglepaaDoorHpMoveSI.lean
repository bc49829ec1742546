/- Move, told by the sorted list: the number's entry goes out, the new one in. No conditions. -/
import Derived.Test.YtfmchkplnglepaaDoorHpMoveI
namespace Go.Proofs.YtfmchkplnglepaaDoor.HpI
open Go.RowKit Go.Proofs.YtfmchkplnglepaaDoorW.PrintWords Go.Proofs.YtfmchkplnglepaaDoorW.PrintLast Go.Proofs.YtfmchkplnglepaaDoorW.PrintMore
open Go Go.Proofs.YtfmchkplnglepaaDoor.Hp
set_option linter.unusedVariables false
set_option linter.unusedSimpArgs false
/-- all but one number's -/
def del (id : Int) (L : List En) : List En := L.filter fun e => e.1 != id
theorem del_srt {id : Int} {L : List En} (h : Srt L) : Srt (del id L) := List.Pairwise.filter _ h
theorem del_none {id : Int} {L : List En} (h : id ∉ L.map (·.1)) : del id L = L := by
  unfold del
  refine List.filter_eq_self.2 fun e he => ?_
  simp only [bne_iff_ne, ne_eq]
  exact fun e2 => h (e2 ▸ List.mem_map_of_mem he)
theorem not_mem_del (id : Int) (L : List En) : id ∉ (del id L).map (·.1) := by
  intro hc
  obtain ⟨e, he, e2⟩ := List.mem_map.1 hc
  have := (List.mem_filter.1 he).2
  simp at this
  exact this e2
theorem mem_del {id : Int} {L : List En} {e : En} : e ∈ del id L ↔ e ∈ L ∧ e.1 ≠ id := by
  unfold del; rw [List.mem_filter]; simp
theorem at_set {es : List En} {j : Nat} {p : En} (hj : j < es.length) (k : Nat) : at' (es.set j p) k = if k = j then p else at' es k := by
  unfold at'
  simp only [List.getD_eq_getElem?_getD, List.getElem?_set]
  by_cases h : j = k
  · subst h; simp [hj]
  · simp [h, Ne.symm h]
theorem cons_erase : ∀ (l : List En) (j : Nat) (hj : j < l.length), (l[j] :: l.eraseIdx j).Perm l
  | [], _, h => absurd h (by simp)
  | x :: r, 0, _ => List.Perm.refl _
  | x :: r, j + 1, h => by
    have ih := cons_erase r j (by simpa using h)
    show (r[j]'(by simpa using h) :: x :: r.eraseIdx j).Perm (x :: r)
    exact (List.Perm.swap x _ _).trans (ih.cons x)
theorem rep_move {es L fs : List En} (h : Rep es L) (hnd : ∀ i j, i < es.length → j < es.length → (at' es i).1 = (at' es j).1 → i = j) {id : Int} {key : Int} (hm : Moved es id key fs) : Rep fs (ins (id, key) (del id L)) := by
  obtain ⟨j, j2, hj, hje, hj2, hje2, rfl⟩ := hm
  have hjs : j < (es.set j (id, key)).length := by simp; exact hj
  have hjl : (es.set j (id, key)).length = es.length := by simp
  have hB : B (es.set j (id, key)) j := by
    intro k k0 k1 k2 k3
    rw [hjl] at k1
    unfold Okk
    rw [at_set hj, at_set hj, if_neg k2, if_neg k3]
    exact h.1 k k0 k1
  have hC : C (es.set j (id, key)) j := by
    intro k k0 k1 k2 k3
    rw [hjl] at k1
    rw [at_set hj, at_set hj, if_neg (show k ≠ j by omega), if_neg (show (j - 1) / 2 ≠ j by omega)]
    have h1 := h.1 k k0 k1
    have h2 := h.1 j k3 hj
    unfold Okk at h1 h2
    rw [k2] at h1
    exact nb_trans h1 h2
  have hul : (upL (j + 1) (es.set j (id, key)) j).length = es.length := by rw [upL_len]; exact hjl
  have hD : Dn (upL (j + 1) (es.set j (id, key)) j) j2 := by
    rcases up_A hjs hB hC with hh | ⟨hh, hd⟩
    · exact heap_Dn hh j2 (by rw [hul]; exact hj2)
    · rw [hh] at hje2 ⊢
      have : j2 = j := by
        rw [at_set hj] at hje2
        by_cases e : j2 = j
        · exact e
        · rw [if_neg e] at hje2
          exact hnd j2 j hj2 hj (hje2.trans hje.symm)
      rw [this]; exact hd
  have hheap := down_D (es.length + 1) _ j2 (by rw [hul]; omega) (by rw [hul]; exact hj2) hD
  refine ⟨hheap, ?_, ins_srt (del_srt h.2.2) (fun hc => (not_mem_del id L) (List.mem_map_of_mem (f := fun e : En => e.1) hc))⟩
  refine (downL_perm _ _ _ (by rw [hul]; exact hj2)).trans ((upL_perm _ _ _ hjs).trans ?_)
  refine List.Perm.trans ?_ (ins_perm (id, key) (del id L)).symm
  have h0 := (cons_erase _ _ hjs).symm
  have e0 : (es.set j (id, key))[j] = (id, key) := by simp
  have e1 : (es.set j (id, key)).eraseIdx j = es.eraseIdx j := by
    apply List.ext_getElem?
    intro m
    rw [List.getElem?_eraseIdx, List.getElem?_eraseIdx]
    split
    · rw [List.getElem?_set, if_neg (by omega)]
    · rw [List.getElem?_set, if_neg (by omega)]
  rw [e0, e1] at h0
  refine h0.trans (List.Perm.cons _ ?_)
  -- the rest
  have h1 : (es[j] :: es.eraseIdx j).Perm L := (cons_erase _ _ hj).trans h.2.1
  have h2 := h1.filter (fun e => e.1 != id)
  have hxj : es[j].1 = id := by rw [← getD_eq hj]; exact hje
  rw [List.filter_cons_of_neg (by rw [hxj]; simp)] at h2
  refine List.Perm.trans ?_ h2
  rw [List.filter_eq_self.2]
  intro e he
  obtain ⟨i, hne, hi⟩ := List.mem_eraseIdx_iff_getElem?.1 he
  obtain ⟨hil, hie⟩ := List.getElem?_eq_some_iff.1 hi
  simp only [bne_iff_ne, ne_eq]
  intro e2
  refine hne (hnd i j hil hj ?_)
  unfold at'
  rw [getD_eq hil, getD_eq hj, hie, e2, hxj]
theorem hs_move {P : Nat → Prop} {W : World} {g : Nat} {L : List En} (h : HS P g L W) (id : Int) (key : Int) (hw : -9223372036854775808 ≤ id ∧ id ≤ 9223372036854775807) :
    Calls Tryd.prog 26 #[.pointer (some ⟨g, 0, none⟩), .int .i64 id, kv key] W fun e W' =>
      (id ∉ L.map (·.1) → e = .returned (.iface 73 (.int .i64 50)) ∧ W' = W) ∧ (id ∈ L.map (·.1) → e = .returned .nilIface ∧ HS P g (ins (id, key) (del id L)) W' ∧ Off P W W') := by
  obtain ⟨es, h1, h2⟩ := h
  have hm : id ∈ es.map (·.1) ↔ id ∈ L.map (·.1) := (h2.2.1.map (·.1)).mem_iff
  refine (move_calls h1 id key hw).mono ?_
  intro e W' hh
  refine ⟨fun hn => hh.1 (fun hc => hn (hm.1 hc)), fun hi => ?_⟩
  obtain ⟨he, fs, hmv, hp, ho⟩ := hh.2 (hm.2 hi)
  exact ⟨he, ⟨fs, hp, rep_move h2 (fun i j hi hj e => h1.nodup hi hj e) hmv⟩, ho⟩
end Go.Proofs.YtfmchkplnglepaaDoor.HpI
