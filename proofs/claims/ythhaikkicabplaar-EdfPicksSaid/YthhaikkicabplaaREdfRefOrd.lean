/- What the reference's Order answers: the places by ends, slots, places. No conditions. -/
import Derived.Test.YthhaikkicabplaaRPx12
import Derived.Test.YthhaikkicabplaaREdfPk
namespace Go.Proofs.YthhaikkicabplaaR.Pure
open Go Go.RowKit Tithe Tithe.Sym Go.Proofs.YthhaikkicabplaaR.P Go.Proofs.YthhaikkicabplaaRW.PrintWords Go.Proofs.YthhaikkicabplaaRW.PrintLast Go.Proofs.YthhaikkicabplaaRW.PrintMore

def cw (x : S60) : S59 := ⟨x.f0, x.f1, x.f2⟩
theorem rdc {l : List S60} {i : Nat} (h : i < l.length) : rd_T59 (l.map cw) (i : Int) = cw (rd_T60 l (i : Int)) := by
  rw [rd60 h, rd59 (by simpa using h)]; simp
theorem ahead_eq (l : List S60) {a b : Nat} (ha : a < l.length) (hb : b < l.length) : titheref10_ahead.f l (a : Int) (b : Int) = some (P.ahd (l.map cw) a b) := by
  unfold titheref10_ahead.f P.ahd chEnd chSlot
  rw [rdc ha, rdc hb, if_pos (by omega), if_pos (by omega), if_pos (by omega), if_pos (by omega)]
  by_cases h1 : (rd_T60 l (a : Int)).f2 = (rd_T60 l (b : Int)).f2
  · rw [if_pos h1]
    by_cases h2 : (rd_T60 l (a : Int)).f0 = (rd_T60 l (b : Int)).f0
    · rw [if_pos h2]
      congr 1
      refine decide_eq_decide.2 ?_
      simp only [cw]
      omega
    · rw [if_neg h2]
      congr 1
      refine decide_eq_decide.2 ?_
      simp only [cw]
      omega
  · rw [if_neg h1]
    congr 1
    refine decide_eq_decide.2 ?_
    simp only [cw]
    omega
theorem rdN {o : List Nat} {j : Nat} (h : j < o.length) : rd (o.map fun x : Nat => (x : Int)) (j : Int) = (o[j] : Int) := by
  rw [rdI (by simpa using h)]; simp
theorem ahd_total (c : List S59) {a i : Nat} (h : a < i) (hn : ¬ P.ahd c a i = true) : P.ahd c i a = true := by
  unfold P.ahd at *
  simp only [decide_eq_true_eq] at *
  omega
theorem refIns_evt (l : List S60) (o : List Nat) (i : Nat) (r : List Int) (hl : l.length ≤ 5864062014634) (hs : Srt (P.ahd (l.map cw)) o) (ho : ∀ x ∈ o, x < i) (hi : i < l.length) (hlen : o.length ≤ i)
    (hc : ∀ j, j ≤ o.length → Lo (P.ahd (l.map cw)) o i j → Hi (P.ahd (l.map cw)) o i j → Evt (fun k => titheref10_Order.l0 k l ((o.take j ++ i :: o.drop j).map fun x : Nat => (x : Int)) ((i + 1 : Nat) : Int)) r) :
    ∀ (d j : Nat), j + d = o.length → Lo (P.ahd (l.map cw)) o i j → Evt (fun k => titheref10_Order.l1 k l (o.map fun x : Nat => (x : Int)) (i : Int) (j : Int)) r := by
  have e : ∀ j, j ≤ o.length → (([] : List Int) ++ ((o.map fun x : Nat => (x : Int)).take j) ++ [(i : Int)]) ++ (o.map fun x : Nat => (x : Int)).drop j = (o.take j ++ i :: o.drop j).map fun x : Nat => (x : Int) := by
    intro j hj
    rw [List.map_append, List.map_cons, List.map_take, List.map_drop]; simp
  intro d
  induction d with
  | zero =>
    intro j hj hlo
    refine Evt.succ ?_
    simp only [titheref10_Order.l1]
    have hw := hc j (by omega) hlo (by intro k h1 h2; omega)
    rw [← e j (by omega), ← w1 i (by omega)] at hw
    rw [List.length_map]
    refine Evt.ifn (by omega) (Evt.ifp (by omega) (Evt.ifp (by omega) (Evt.call rfl (Evt.ifp ?_ (Evt.call rfl (Evt.ifp ?_ (Evt.call rfl (Evt.call rfl (Evt.ifp ?_ hw)))))))))
    · simp only [Int.toNat_natCast, List.length_take, List.length_map, List.length_nil]; omega
    · simp only [Int.toNat_natCast, List.length_append, List.length_take, List.length_map, List.length_nil]; omega
    · simp only [Int.toNat_natCast, List.length_append, List.length_take, List.length_drop, List.length_map, List.length_nil, List.length_cons]; omega
  | succ d ih =>
    intro j hj hlo
    have hjl : j < o.length := by omega
    refine Evt.succ ?_
    simp only [titheref10_Order.l1]
    rw [List.length_map, rdN hjl, w1 j (by omega)]
    have hoj := ho _ (List.getElem_mem hjl)
    refine Evt.ifp (by omega) (Evt.ifp (by omega) (Evt.call (ahead_eq l (by omega) hi) ?_))
    by_cases ht : P.ahd (l.map cw) o[j] i = true
    · exact Evt.ifp ht (ih (j + 1) (by omega) (lo_step (ahd_ord _) hs hjl (by rw [getD_eq _ _ hjl]; exact ht)))
    · have hw := hc j (by omega) hlo (hi_step (ahd_ord _) hs hjl (by rw [getD_eq _ _ hjl]; exact ahd_total _ hoj ht))
      rw [← e j (by omega), ← w1 i (by omega)] at hw
      refine Evt.ifn ht (Evt.ifp (by omega) (Evt.call rfl (Evt.ifp ?_ (Evt.call rfl (Evt.ifp ?_ (Evt.call rfl (Evt.call rfl (Evt.ifp ?_ hw))))))))
      · simp only [Int.toNat_natCast, List.length_take, List.length_map, List.length_nil]; omega
      · simp only [Int.toNat_natCast, List.length_append, List.length_take, List.length_map, List.length_nil]; omega
      · simp only [Int.toNat_natCast, List.length_append, List.length_take, List.length_drop, List.length_map, List.length_nil, List.length_cons]; omega
theorem refOrder_evt (l : List S60) (hl : l.length ≤ 5864062014634) : Evt (fun k => titheref10_Order.f k l) ((ordl (l.map cw)).map fun x : Nat => (x : Int)) := by
  have key : ∀ (d i : Nat) (o : List Nat), i + d = l.length → Srt (P.ahd (l.map cw)) o → o.Perm (plc (l.map cw) i) → Evt (fun k => titheref10_Order.l0 k l (o.map fun x : Nat => (x : Int)) (i : Int)) ((ordl (l.map cw)).map fun x : Nat => (x : Int)) := by
    intro d
    induction d with
    | zero =>
      intro i o hi hs hp
      have e : o = ordl (l.map cw) := by
        refine srt_uniq (ahd_ord _) hs (ordl_srt _) (hp.trans ?_)
        rw [show i = (l.map cw).length by rw [List.length_map]; omega]
        exact (ordl_perm _).symm
      refine Evt.succ ?_
      simp only [titheref10_Order.l0]
      rw [e]
      exact Evt.ifn (by omega) (Evt.pure fun _ => rfl)
    | succ d ih =>
      intro i o hi hs hp
      have hil : i < l.length := by omega
      refine Evt.succ ?_
      simp only [titheref10_Order.l0]
      refine Evt.ifp (by omega) (Evt.ifp (by omega) ?_)
      have hps := plc_succ (l.map cw) i
      rw [rdc hil] at hps
      have hol : o.length ≤ i := by rw [hp.length_eq]; exact plc_len _ _
      by_cases h0 : (rd_T60 l (i : Int)).f1 ≤ 0
      · rw [if_neg (show ¬ 0 < (cw (rd_T60 l (i : Int))).f1 from by show ¬ 0 < (rd_T60 l (i : Int)).f1; omega)] at hps
        rw [w1 i (by omega)]
        exact Evt.ifp h0 (ih (i + 1) o (by omega) hs (by rw [hps]; exact hp))
      · rw [if_pos (show 0 < (cw (rd_T60 l (i : Int))).f1 from by show 0 < (rd_T60 l (i : Int)).f1; omega)] at hps
        refine Evt.ifn h0 (refIns_evt l o i _ hl hs (fun x hx => plc_lt _ _ x (hp.mem_iff.1 hx)) hil hol ?_ o.length 0 (by omega) (lo_zero _ _))
        intro j hj h1 h2
        obtain ⟨q1, q2⟩ := one_in (ahd_ord _) hs hj h1 h2
        refine ih (i + 1) _ (by omega) q1 ?_
        rw [hps]
        exact q2.trans ((List.Perm.cons i hp).trans (List.perm_append_singleton i _).symm)
  exact key l.length 0 [] (by omega) List.Pairwise.nil (by simp [plc])
end Go.Proofs.YthhaikkicabplaaR.Pure
