/- EdfOrder in plain Lean: the order is that in which Pick answers, one taken out after the other. No conditions beyond the statement's. -/
import Derived.Test.YthhaikkicabplaaREdfPk
import Derived.Test.YthhaikkicabplaaRDefEdfOrder
namespace Go.Proofs.YthhaikkicabplaaR.Pure
open Go Go.RowKit Tithe Tithe.Sym Go.Proofs.YthhaikkicabplaaR.P Go.Proofs.YthhaikkicabplaaRW.PrintWords Go.Proofs.YthhaikkicabplaaRW.PrintLast Go.Proofs.YthhaikkicabplaaRW.PrintMore

def co (x : S60) : S59 := ⟨x.f0, x.f1, x.f2⟩
theorem rd59_set {x : List S59} {n j : Nat} (v : S59) (hj : j < x.length) : rd_T59 (x.set n v) (j : Int) = if n = j then v else rd_T59 x (j : Int) := by
  rw [rd59 (by simpa using hj), rd59 hj, List.getElem_set]
/-- behind k picks -/
structure Zd (c x : List S59) (o : List Nat) (k : Nat) : Prop where
  len : x.length = c.length
  f0 : ∀ j : Nat, j < c.length → (rd_T59 x (j : Int)).f0 = (rd_T59 c (j : Int)).f0
  f2 : ∀ j : Nat, j < c.length → (rd_T59 x (j : Int)).f2 = (rd_T59 c (j : Int)).f2
  f1 : ∀ j : Nat, j < c.length → (rd_T59 x (j : Int)).f1 = if j ∈ o.take k then 0 else (rd_T59 c (j : Int)).f1
theorem ordl_mem (c : List S59) (j : Nat) : j ∈ ordl c ↔ j < c.length ∧ 0 < (rd_T59 c (j : Int)).f1 := by
  rw [(ordl_perm c).mem_iff]
  unfold plc
  rw [List.mem_filter]
  simp
theorem ordl_get_lt (c : List S59) {k : Nat} (hk : k < (ordl c).length) : (ordl c)[k] < c.length := ((ordl_mem c _).1 (List.getElem_mem hk)).1
theorem Zd.next {c x : List S59} {k : Nat} (h : Zd c x (ordl c) k) (hk : k < (ordl c).length) : PickIs c.length (fun j => (rd_T59 x j).f0) (fun j => (rd_T59 x j).f1) (fun j => (rd_T59 x j).f2) (((ordl c)[k] : Nat) : Int) := by
  have hm := (ordl_mem c _).1 (List.getElem_mem hk)
  refine .inr ⟨(ordl c)[k], hm.1, rfl, ?_, ?_⟩
  · show 0 < (rd_T59 x (((ordl c)[k] : Nat) : Int)).f1
    rw [h.f1 _ hm.1, if_neg]
    · exact hm.2
    · intro hh
      obtain ⟨i, hi, e⟩ := List.getElem_of_mem hh
      rw [List.length_take] at hi
      rw [List.getElem_take] at e
      have h2 := srt_get (ordl_srt c) (i := i) (j := k) (by omega) hk
      rw [e, (ahd_ord c).irr] at h2
      cases h2
  · intro j hj h0
    have h0 : 0 < (rd_T59 x (j : Int)).f1 := h0
    rw [h.f1 j hj] at h0
    by_cases hin : j ∈ (ordl c).take k
    · rw [if_pos hin] at h0; omega
    · rw [if_neg hin] at h0
      have hmem := (ordl_mem c j).2 ⟨hj, h0⟩
      rw [← List.take_append_drop k (ordl c)] at hmem
      rcases List.mem_append.1 hmem with hh | hh
      · exact absurd hh hin
      · unfold Ahd
        show (rd_T59 x (((ordl c)[k] : Nat) : Int)).f2 < (rd_T59 x (j : Int)).f2 ∨ (rd_T59 x (((ordl c)[k] : Nat) : Int)).f2 = (rd_T59 x (j : Int)).f2 ∧ ((rd_T59 x (((ordl c)[k] : Nat) : Int)).f0 < (rd_T59 x (j : Int)).f0 ∨ (rd_T59 x (((ordl c)[k] : Nat) : Int)).f0 = (rd_T59 x (j : Int)).f0 ∧ (ordl c)[k] ≤ j)
        rw [h.f2 _ hm.1, h.f2 _ hj, h.f0 _ hm.1, h.f0 _ hj]
        rcases mem_drop_le (ahd_ord c) (ordl_srt c) hk hh with e | e
        · rw [← e]
          exact .inr ⟨rfl, .inr ⟨rfl, Nat.le_refl _⟩⟩
        · unfold P.ahd chEnd chSlot at e
          simp only [decide_eq_true_eq] at e
          omega
theorem Zd.last {c x : List S59} {k : Nat} (h : Zd c x (ordl c) k) (hk : k = (ordl c).length) : PickIs c.length (fun j => (rd_T59 x j).f0) (fun j => (rd_T59 x j).f1) (fun j => (rd_T59 x j).f2) (-1) := by
  refine .inl ⟨rfl, fun j hj => ?_⟩
  show (rd_T59 x (j : Int)).f1 ≤ 0
  rw [h.f1 j hj, hk, List.take_length]
  by_cases hin : j ∈ ordl c
  · rw [if_pos hin]; omega
  · rw [if_neg hin]
    have hx : ¬ 0 < (rd_T59 c (j : Int)).f1 := fun h0 => hin ((ordl_mem c j).2 ⟨hj, h0⟩)
    omega
theorem Zd.step {c x : List S59} {k : Nat} (h : Zd c x (ordl c) k) (hk : k < (ordl c).length) :
    Zd c (x.set (ordl c)[k] ⟨(rd_T59 x (((ordl c)[k] : Nat) : Int)).f0, 0, (rd_T59 x (((ordl c)[k] : Nat) : Int)).f2⟩) (ordl c) (k + 1) := by
  have hn := ordl_get_lt c hk
  refine ⟨by rw [List.length_set]; exact h.len, fun j hj => ?_, fun j hj => ?_, fun j hj => ?_⟩
  · rw [rd59_set _ (by rw [h.len]; exact hj)]
    by_cases e : (ordl c)[k] = j
    · rw [if_pos e, ← e]; exact h.f0 _ hn
    · rw [if_neg e]; exact h.f0 j hj
  · rw [rd59_set _ (by rw [h.len]; exact hj)]
    by_cases e : (ordl c)[k] = j
    · rw [if_pos e, ← e]; exact h.f2 _ hn
    · rw [if_neg e]; exact h.f2 j hj
  · rw [rd59_set _ (by rw [h.len]; exact hj), List.take_succ_eq_append_getElem hk]
    by_cases e : (ordl c)[k] = j
    · rw [if_pos e, if_pos (List.mem_append.2 (.inr (List.mem_singleton.2 e.symm)))]
    · rw [if_neg e, h.f1 j hj]
      by_cases hin : j ∈ (ordl c).take k
      · rw [if_pos hin, if_pos (List.mem_append.2 (.inl hin))]
      · rw [if_neg hin, if_neg]
        intro hh
        rcases List.mem_append.1 hh with hh | hh
        · exact hin hh
        · exact e (List.mem_singleton.1 hh).symm
theorem rdO {o : List Nat} {j : Nat} (h : j < o.length) : rd (o.map fun x : Nat => (x : Int)) (j : Int) = (o[j] : Int) := by
  rw [rdI (by simpa using h)]; simp
theorem order_l1 (c : List S59) (hc : c.length ≤ 60) : ∀ (d k : Nat) (x : List S59), k + d = (ordl c).length → Zd c x (ordl c) k → Evt (fun m => tithelaw10_EdfOrder.l1 m x ((ordl c).map fun x : Nat => (x : Int)) (k : Int)) true := by
  have hol : (ordl c).length ≤ 60 := by rw [ordl_len]; have := plc_len c c.length; omega
  intro d
  induction d with
  | zero =>
    intro k x hk h
    refine Evt.succ ?_
    simp only [tithelaw10_EdfOrder.l1]
    obtain ⟨r, h1, h2⟩ := Pick_evt x (by rw [h.len]; omega)
    rw [h.len] at h2
    obtain rfl := h2.uniq (h.last (by omega))
    rw [List.length_map]
    exact Evt.ifp (by omega) (Evt.bind h1 (Evt.ifp (by omega) (Evt.ifp rfl (Evt.bind works_evt (Evt.pure fun _ => rfl)))))
  | succ d ih =>
    intro k x hk h
    have hkl : k < (ordl c).length := by omega
    have hn := ordl_get_lt c hkl
    refine Evt.succ ?_
    simp only [tithelaw10_EdfOrder.l1]
    obtain ⟨r, h1, h2⟩ := Pick_evt x (by rw [h.len]; omega)
    rw [h.len] at h2
    obtain rfl := h2.uniq (h.next hkl)
    rw [List.length_map, rdO hkl, w1 k (by omega)]
    have hlen := h.len
    exact Evt.ifp (by omega) (Evt.bind h1 (Evt.ifn (by omega) (Evt.ifp (by omega) (Evt.ifp (by omega) (Evt.ifp rfl (Evt.ifn (by omega) (Evt.ifn (by omega) (Evt.ifp (by omega) (Evt.ifp (by omega) (ih (k + 1) _ (by omega) (h.step hkl)))))))))))
theorem order_l0 (l : List S60) (hl : l.length ≤ 60) : ∀ (d i : Nat), i + d = l.length → Evt (fun k => tithelaw10_EdfOrder.l0 k l ((l.take i).map co) (i : Int)) true := by
  intro d
  induction d with
  | zero =>
    intro i hi
    refine Evt.succ ?_
    simp only [tithelaw10_EdfOrder.l0]
    rw [List.take_of_length_le (by omega)]
    have ho : edf_Order.f (l.map co) = some ((ordl (l.map co)).map fun x : Nat => (x : Int)) := by
      unfold edf_Order.f
      rw [if_pos (by rw [List.length_map]; omega)]
    exact Evt.ifn (by omega) (Evt.call ho (order_l1 (l.map co) (by rw [List.length_map]; exact hl) (ordl (l.map co)).length 0 (l.map co) (by omega) ⟨rfl, fun _ _ => rfl, fun _ _ => rfl, fun _ _ => by simp⟩))
  | succ d ih =>
    intro i hi
    have hil : i < l.length := by omega
    refine Evt.succ ?_
    simp only [tithelaw10_EdfOrder.l0]
    rw [w1 i (by omega)]
    have e : (l.take i).map co ++ [(⟨(rd_T60 l (i : Int)).f0, (rd_T60 l (i : Int)).f1, (rd_T60 l (i : Int)).f2⟩ : S59)] = (l.take (i + 1)).map co := by
      rw [List.take_succ_eq_append_getElem hil, List.map_append, rd60 hil]
      rfl
    rw [e]
    exact Evt.ifp (by omega) (Evt.ifp (by omega) (Evt.ifp (by rw [List.length_map, List.length_take]; omega) (ih (i + 1) (by omega))))
theorem EdfOrder : tithelaw10_EdfOrder.Pure := by
  unfold tithelaw10_EdfOrder.Pure
  intro l _ h24 _
  unfold tithelaw10_EdfOrder.f
  by_cases hl : (l.length : Int) > 60
  · exact (Evt.ifp hl (Evt.bind works_evt (Evt.pure fun _ => rfl))).ex
  · exact (Evt.ifn hl (order_l0 l (by omega) l.length 0 (by omega))).ex
end Go.Proofs.YthhaikkicabplaaR.Pure
