/- A heap told by the sorted list of what it holds: New, Push, Min, Pop, Len. No conditions. -/
import Derived.Test.YtfmchkplnglepaaHpPureI
namespace Go.Proofs.Ytfmchkplnglepaa.HpI
open Go.RowKit Go.Proofs.YtfmchkplnglepaaW.PrintWords Go.Proofs.YtfmchkplnglepaaW.PrintLast Go.Proofs.YtfmchkplnglepaaW.PrintMore
open Go Go.Proofs.Ytfmchkplnglepaa.Hp
set_option linter.unusedVariables false
set_option linter.unusedSimpArgs false
theorem getD_eq {es : List En} {i : Nat} (h : i < es.length) : es.getD i z = es[i] := by simp [List.getD, List.getElem?_eq_getElem h]
theorem swp_perm {es : List En} {i j : Nat} (hi : i < es.length) (hj : j < es.length) : (swp es i j).Perm es := by
  unfold swp
  rw [getD_eq hi, getD_eq hj]
  exact List.set_set_perm hi hj
theorem upL_perm : ∀ (f : Nat) (es : List En) (i : Nat), i < es.length → (upL f es i).Perm es
  | 0, es, i, _ => List.Perm.refl _
  | f + 1, es, i, h => by
    unfold upL
    split
    · exact (upL_perm f _ _ (by rw [swp_len]; omega)).trans (swp_perm h (by omega))
    · exact List.Perm.refl _
theorem downL_perm : ∀ (f : Nat) (es : List En) (i : Nat), i < es.length → (downL f es i).Perm es
  | 0, es, i, _ => List.Perm.refl _
  | f + 1, es, i, h => by
    unfold downL
    split
    · exact List.Perm.refl _
    · exact (downL_perm f _ _ (by rw [swp_len]; exact leastL_lt h)).trans (swp_perm h (leastL_lt h))
theorem downL_len (f : Nat) (es : List En) (i : Nat) (h : i < es.length) : (downL f es i).length = es.length := (downL_perm f es i h).length_eq
def Srt (L : List En) : Prop := L.Pairwise fun a b => bef a b = true
/-- a heap's row, and what it holds in order -/
def Rep (es L : List En) : Prop := IsHeap es ∧ es.Perm L ∧ Srt L
theorem rep_nil : Rep [] [] := ⟨fun k _ h => absurd h (by simp), List.Perm.refl _, List.Pairwise.nil⟩
/-- put in, in order -/
def ins (p : En) : List En → List En
  | [] => [p]
  | x :: r => if bef x p = true then x :: ins p r else p :: x :: r
theorem ins_perm (p : En) : ∀ L : List En, (ins p L).Perm (p :: L)
  | [] => List.Perm.refl _
  | x :: r => by
    unfold ins
    split
    · exact ((ins_perm p r).cons x).trans (List.Perm.swap p x r)
    · exact List.Perm.refl _
theorem ins_srt {p : En} : ∀ {L : List En}, Srt L → p ∉ L → Srt (ins p L)
  | [], _, _ => by unfold ins Srt; simp
  | x :: r, h, hp => by
    unfold Srt at h
    rw [List.pairwise_cons] at h
    unfold ins
    split
    · rename_i hb
      refine List.pairwise_cons.2 ⟨fun y hy => ?_, ins_srt h.2 (fun hc => hp (List.mem_cons_of_mem _ hc))⟩
      rcases List.mem_cons.1 ((ins_perm p r).mem_iff.1 hy) with rfl | hy
      · exact hb
      · exact h.1 y hy
    · rename_i hb
      have hpx : bef p x = true := by
        rcases bef_total x p with h1 | h1 | h1
        · exact absurd h1 hb
        · exact h1
        · exact absurd (by rw [h1]; exact List.mem_cons_self ..) hp
      refine List.pairwise_cons.2 ⟨fun y hy => ?_, List.pairwise_cons.2 h⟩
      rcases List.mem_cons.1 hy with rfl | hy
      · exact hpx
      · exact bef_trans hpx (h.1 y hy)
theorem srt_head {x : En} {r : List En} (h : Srt (x :: r)) : ∀ y ∈ r, bef x y = true := (List.pairwise_cons.1 h).1
theorem srt_uniq : ∀ {L M : List En}, Srt L → Srt M → L.Perm M → L = M
  | [], M, _, _, hp => (List.Perm.nil_eq hp)
  | x :: r, [], _, _, hp => absurd hp.length_eq (by simp)
  | x :: r, y :: s, h1, h2, hp => by
    have e : x = y := by
      have hx := hp.mem_iff.1 (List.mem_cons_self (a := x) (l := r))
      have hy := hp.mem_iff.2 (List.mem_cons_self (a := y) (l := s))
      rcases List.mem_cons.1 hx with e | hx
      · exact e
      rcases List.mem_cons.1 hy with e | hy
      · exact e.symm
      have a := srt_head h2 x hx
      have b := srt_head h1 y hy
      rw [bef_asymm a] at b; cases b
    subst e
    have hr := (List.perm_cons x).1 hp
    rw [srt_uniq (List.pairwise_cons.1 h1).2 (List.pairwise_cons.1 h2).2 hr]
theorem rep_first {es L : List En} (h : Rep es L) : first3 es = first3 L := by
  obtain ⟨hh, hp, hs⟩ := h
  cases es with
  | nil => rw [← List.Perm.nil_eq hp]
  | cons x r =>
    cases L with
    | nil => exact absurd hp.length_eq (by simp)
    | cons y s =>
      have e : x = y := by
        have hy := hp.mem_iff.2 (List.mem_cons_self (a := y) (l := s))
        have hx := hp.mem_iff.1 (List.mem_cons_self (a := x) (l := r))
        obtain ⟨i, hi, e⟩ := List.getElem_of_mem hy
        have h1 := heap_first hh i hi
        have e1 : at' (x :: r) i = y := by unfold at'; rw [getD_eq hi]; exact e
        have e0 : at' (x :: r) 0 = x := rfl
        rw [e1, e0] at h1
        rcases List.mem_cons.1 hx with e | hx
        · exact e
        · rw [srt_head hs x hx] at h1; cases h1
      subst e
      rfl
theorem len_of {es L : List En} (h : Rep es L) : es.length = L.length := h.2.1.length_eq
theorem rep_push {es L : List En} (h : Rep es L) {p : En} (hp : p.1 ∉ L.map (·.1)) : Rep (pushL es p) (ins p L) := by
  have hpl : p ∉ L := fun hc => hp (List.mem_map_of_mem hc)
  have hlt : es.length < (es ++ [p]).length := by simp
  refine ⟨?_, ?_, ins_srt h.2.2 hpl⟩
  · have hat : ∀ k, k < es.length → at' (es ++ [p]) k = at' es k := fun k hk => by
      unfold at'; rw [List.getD_eq_getElem?_getD, List.getElem?_append_left hk, ← List.getD_eq_getElem?_getD]
    have hB : B (es ++ [p]) es.length := by
      intro k k0 k1 k2 k3
      have hk : k < es.length := by simp at k1; omega
      unfold Okk
      rw [hat k hk, hat _ (by omega)]
      exact h.1 k k0 hk
    have hno : ∀ k, 0 < k → k < (es ++ [p]).length → (k - 1) / 2 = es.length → False := fun k k0 k1 k2 => by simp at k1; omega
    unfold pushL
    exact up_U (es.length + 1) _ _ (by omega) hlt hB (fun k a b c _ => (hno k a b c).elim) (fun k a b c => (hno k a b c).elim)
  · unfold pushL
    refine (upL_perm _ _ _ hlt).trans (List.Perm.trans ?_ (ins_perm p L).symm)
    exact List.perm_append_comm.trans (h.2.1.cons p)
theorem take_last {es : List En} (h : 0 < es.length) : es = es.take (es.length - 1) ++ [at' es (es.length - 1)] := by
  have hl : es.length - 1 < es.length := by omega
  unfold at'
  rw [getD_eq hl]
  have h1 := List.drop_eq_getElem_cons hl
  rw [show es.length - 1 + 1 = es.length by omega, List.drop_length] at h1
  rw [← h1, List.take_append_drop]
theorem cut_perm {es : List En} {i : Nat} (hi : i < es.length) : es.Perm (at' es i :: cutL es i) := by
  have hl : es.length - 1 < es.length := by omega
  have h1 := (swp_perm hi hl).symm
  have h2 := take_last (es := swp es i (es.length - 1)) (by rw [swp_len]; omega)
  rw [swp_len, at_swp hi hl, if_pos rfl] at h2
  refine h1.trans ?_
  rw [h2]
  exact List.perm_append_comm
theorem at_cut {es : List En} {i k : Nat} (hi : i < es.length) (hk : k < es.length - 1) : at' (cutL es i) k = if k = i then at' es (es.length - 1) else at' es k := by
  have e : at' (cutL es i) k = at' (swp es i (es.length - 1)) k := by
    unfold at' cutL
    rw [List.getD_eq_getElem?_getD, List.getElem?_take, if_pos hk, ← List.getD_eq_getElem?_getD]
  rw [e, at_swp hi (by omega), if_neg (show k ≠ es.length - 1 by omega)]
theorem rem_heap {es : List En} {i : Nat} (h : IsHeap es) (hi : i < es.length) : IsHeap (removeL es i) ∧ es.Perm (at' es i :: removeL es i) := by
  have hcl := cutL_len es i
  have hB : B (cutL es i) i := by
    intro k k0 k1 k2 k3
    rw [hcl] at k1
    unfold Okk
    rw [at_cut hi k1, if_neg k2, at_cut hi (show (k - 1) / 2 < es.length - 1 by omega), if_neg k3]
    exact h k k0 (by omega)
  have hC : C (cutL es i) i := by
    intro k k0 k1 k2 k3
    rw [hcl] at k1
    rw [at_cut hi k1, if_neg (show k ≠ i by omega), at_cut hi (show (i - 1) / 2 < es.length - 1 by omega), if_neg (show (i - 1) / 2 ≠ i by omega)]
    have h1 := h k k0 (by omega)
    have h2 := h i k3 hi
    unfold Okk at h1 h2
    rw [k2] at h1
    exact nb_trans h1 h2
  unfold removeL
  by_cases hc : i < es.length - 1
  · rw [if_pos hc]
    have hil : i < (cutL es i).length := by omega
    have hul : i < (upL (i + 1) (cutL es i) i).length := by rw [upL_len]; exact hil
    refine ⟨down_D _ _ _ (by rw [upL_len]; omega) hul (up_Dn hil hB hC), ?_⟩
    exact (cut_perm hi).trans (((upL_perm (i + 1) _ _ hil).symm.trans (downL_perm _ _ _ hul).symm).cons _)
  · rw [if_neg hc]
    refine ⟨fun k k0 k1 => ?_, cut_perm hi⟩
    rw [hcl] at k1
    exact hB k k0 (by rw [hcl]; exact k1) (by omega) (by omega)
theorem rep_pop {es : List En} {x : En} {r : List En} (h : Rep es (x :: r)) : Rep (popL es) r := by
  have hl := len_of h
  cases es with
  | nil => simp at hl
  | cons y s =>
    have hf := rep_first h
    simp only [first3, Prod.mk.injEq] at hf
    have e : y = x := Prod.ext hf.1 hf.2.1
    obtain ⟨h1, h2⟩ := rem_heap (i := 0) h.1 (by simp)
    refine ⟨h1, ?_, (List.pairwise_cons.1 h.2.2).2⟩
    have h3 := h2.symm.trans h.2.1
    have e0 : at' (y :: s) 0 = x := e
    rw [e0] at h3
    exact (List.perm_cons x).1 h3
theorem rep_pop_nil {es : List En} (h : Rep es []) : popL es = [] := by
  have := len_of h
  cases es with
  | nil => rfl
  | cons y s => simp at this
/-- a heap at block g that holds L -/
def HS (P : Nat → Prop) (g : Nat) (L : List En) (W : World) : Prop := ∃ es, HP P g es W ∧ Rep es L
theorem HS.off {P : Nat → Prop} {g : Nat} {L : List En} {W W1 : World} (h : HS P g L W) (hk : ∀ k, k < W.heap.size → P k → W1.heap[k]? = W.heap[k]?) : HS P g L W1 := by
  obtain ⟨es, h1, h2⟩ := h
  exact ⟨es, h1.off hk, h2⟩
theorem HS.len {P : Nat → Prop} {g : Nat} {L : List En} {W : World} (h : HS P g L W) : L.length ≤ 1000000 := by
  obtain ⟨es, h1, h2⟩ := h
  rw [← len_of h2]; exact h1.len
theorem HS.drewN {P : Nat → Prop} {g : Nat} {L : List En} {W : World} (h : HS P g L W) (n : Nat) : HS P g L (W.drewN n) := by
  obtain ⟨es, h1, h2⟩ := h
  exact ⟨es, h1.drewN n, h2⟩
theorem hs_new {P : Nat → Prop} {W : World} (hP : ∀ k, W.heap.size ≤ k → P k) :
    Calls Try.prog 17 #[] W fun e W' => ∃ g : Nat, e = .returned (.pointer (some ⟨g, 0, none⟩)) ∧ HS P g [] W' ∧ Off P W W' := by
  refine (new_calls hP).mono ?_
  rintro e W' ⟨g, rfl, h, ho⟩
  exact ⟨g, rfl, ⟨[], h, rep_nil⟩, ho⟩
theorem hs_len {P : Nat → Prop} {W : World} {g : Nat} {L : List En} (h : HS P g L W) :
    Calls Try.prog 20 #[.pointer (some ⟨g, 0, none⟩)] W fun e W' => e = .returned (.int .i64 (L.length : Int)) ∧ W' = W := by
  obtain ⟨es, h1, h2⟩ := h
  rw [← len_of h2]
  exact len_calls h1
theorem hs_min {P : Nat → Prop} {W : World} {g : Nat} {L : List En} (h : HS P g L W) :
    Calls Try.prog 25 #[.pointer (some ⟨g, 0, none⟩)] W fun e W' => e = .returned (.tuple #[.int .i64 (first3 L).1, kv (first3 L).2.1, .bool (first3 L).2.2]) ∧ ∃ n, W' = W.drewN n := by
  obtain ⟨es, h1, h2⟩ := h
  rw [← rep_first h2]
  exact min_calls h1
theorem hs_push {P : Nat → Prop} {W : World} {g : Nat} {L : List En} (h : HS P g L W) (hP : ∀ k, W.heap.size ≤ k → P k) (hl : L.length < 1000000) (p : En) (hw : -9223372036854775808 ≤ p.1 ∧ p.1 ≤ 9223372036854775807) :
    Calls Try.prog 18 #[.pointer (some ⟨g, 0, none⟩), .int .i64 p.1, kv p.2] W fun e W' =>
      (p.1 ∈ L.map (·.1) → e = .returned (.iface 58 (.int .i64 1)) ∧ W' = W) ∧ (p.1 ∉ L.map (·.1) → e = .returned .nilIface ∧ HS P g (ins p L) W' ∧ Off P W W') := by
  obtain ⟨es, h1, h2⟩ := h
  have hm : p.1 ∈ es.map (·.1) ↔ p.1 ∈ L.map (·.1) := (h2.2.1.map (·.1)).mem_iff
  refine (push_calls h1 hP (by rw [len_of h2]; exact hl) p hw).mono ?_
  intro e W' h
  by_cases hc : p.1 ∈ es.map (·.1)
  · rw [if_pos hc] at h
    exact ⟨fun _ => h, fun hn => absurd (hm.1 hc) hn⟩
  · rw [if_neg hc] at h
    exact ⟨fun hn => absurd (hm.2 hn) hc, fun hn => ⟨h.1, ⟨_, h.2.1, rep_push h2 hn⟩, h.2.2⟩⟩
theorem hs_pop {P : Nat → Prop} {W : World} {g : Nat} {L : List En} (h : HS P g L W) :
    Calls Try.prog 21 #[.pointer (some ⟨g, 0, none⟩)] W fun e W' => e = .returned (.tuple #[.int .i64 (first3 L).1, kv (first3 L).2.1, .bool (first3 L).2.2]) ∧ HS P g L.tail W' ∧ Off P W W' := by
  obtain ⟨es, h1, h2⟩ := h
  rw [← rep_first h2]
  refine (pop_calls h1).mono ?_
  rintro e W' ⟨rfl, h, ho⟩
  refine ⟨rfl, ⟨popL es, h, ?_⟩, ho⟩
  cases L with
  | nil => rw [rep_pop_nil h2]; exact rep_nil
  | cons x r => exact rep_pop h2
end Go.Proofs.Ytfmchkplnglepaa.HpI
