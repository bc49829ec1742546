/- What DemandSerial goes through, in plain Lean: the levels along the order, the play tick by tick, Busy. No conditions. -/
import Derived.Test.YtdonlmbhamcjdaaRRRDemLevel
namespace Go.Proofs.YtdonlmbhamcjdaaRRR.Ser
set_option linter.unusedVariables false
open Go Go.RowKit Tithe Go.Proofs.YtdonlmbhamcjdaaRRR.E Go.Proofs.YtdonlmbhamcjdaaRRR.Pure Go.Proofs.YtdonlmbhamcjdaaRRRW.PrintWords Go.Proofs.YtdonlmbhamcjdaaRRRW.PrintLast Go.Proofs.YtdonlmbhamcjdaaRRRW.PrintMore

/-- the first p entries of the order -/
def pre (l : List S43) (p : Nat) : List S43 := ((ol l).take p).map fun j : Nat => rd_T43 l (j : Int)
theorem take_while_idx {L : List Nat} (hn : L.Nodup) {p : Nat} (hp : p < L.length) : L.takeWhile (fun j => j != L[p]) = L.take p := by
  have e : L = L.take p ++ L[p] :: L.drop (p + 1) := by rw [← List.drop_eq_getElem_cons hp, List.take_append_drop]
  have hni : L[p] ∉ L.take p := by
    intro h
    obtain ⟨q, hq, hqe⟩ := List.getElem_of_mem h
    rw [List.length_take] at hq
    rw [List.getElem_take] at hqe
    have := (List.getElem_inj (h₀ := by omega) (h₁ := hp) hn).1 hqe
    omega
  conv => lhs; arg 2; rw [e]
  exact take_split hni
theorem ahl_pre {l : List S43} {p : Nat} (hp : p < (ol l).length) : ahl l (ol l)[p] = pre l p := by
  unfold ahl pre
  rw [take_while_idx (ol_nodup l) hp]
theorem pre_succ {l : List S43} {p : Nat} (hp : p < (ol l).length) : pre l (p + 1) = pre l p ++ [rd_T43 l ((ol l)[p] : Int)] := by
  unfold pre
  rw [List.take_succ_eq_append_getElem hp, List.map_append]; rfl
theorem pre_ok {l : List S43} (hok : ∀ x ∈ l, okp x) (p : Nat) : ∀ x ∈ pre l p, okp x := by
  intro x hx
  obtain ⟨j, hj, rfl⟩ := List.mem_map.1 hx
  have hm := ol_mem.1 (List.mem_of_mem_take hj)
  rw [rd_get hm]; exact hok _ (List.getElem_mem hm)
theorem pre_len {l : List S43} {p : Nat} (hp : p ≤ (ol l).length) : (pre l p).length = p := by
  unfold pre; rw [List.length_map, List.length_take]; omega

theorem Level_val {l : List S43} (hok : ∀ x ∈ l, okp x) (h8 : l.length ≤ 8) {j : Nat} (hj : j < l.length) {t : Int} (ht : 0 ≤ t ∧ t ≤ 1073741824) :
    Evt (fun k => demand_Level.f k l j t) ((rd_T43 l (j : Int)).f1 + rs (ahl l j) t, none) := by
  have hp := place_evt (l := l) (by omega) (j : Int)
  rw [if_pos (vcode_ok.2 ⟨h8, hok⟩), if_pos (by omega)] at hp
  have hx := hok _ (List.getElem_mem hj)
  have hx' := hx
  obtain ⟨_, _, c1, c2, _⟩ := hx'
  rw [← rd_get hj] at c1 c2
  unfold demand_Level.f
  refine Evt.bind hp (Evt.ifp rfl (Evt.call (is_eq t 0 1073741824) ?_))
  rw [decide_eq_true ht]
  refine Evt.ifp rfl (Evt.ifp (by omega) (Evt.ifp (by omega) (Evt.bind (ahead_evt h8 j) ?_)))
  have hLok := ahl_ok hok (i := j)
  have hLl := ahl_len hj
  generalize ahl l j = L at *
  have key : ∀ (d p : Nat) (acc : Int), p + d = L.length → 0 ≤ acc → acc ≤ (p + 1) * 2251799813685248 → Evt (fun k => demand_Level.l0 k t acc L (L.length : Int) p) (acc + rs (L.drop p) t, none) := by
    intro d
    induction d with
    | zero =>
      intro p acc hp a0 a1
      refine Evt.succ (Evt.pure fun k => ?_)
      simp only [demand_Level.l0]
      rw [if_neg (by omega), List.drop_of_length_le (by omega), rs_nil, Int.add_zero]
    | succ d ih =>
      intro p acc hp a0 a1
      have hy := hLok _ (List.getElem_mem (show p < L.length by omega))
      have hb := rq_bounds hy ht.1 (by omega)
      refine Evt.succ ?_
      simp only [demand_Level.l0]
      rw [w1 p (by omega)]
      refine Evt.ifp (by omega) (Evt.ifp (by omega) (Evt.ifp (by omega) (Evt.call (a := rq L[p] t) ?_ ?_)))
      · rw [rd_get (by omega)]; exact requests_ok hy ht.1 (by omega)
      · rw [w64 (n := acc + rq L[p] t) (by omega) (by omega), List.drop_eq_getElem_cons (by omega), rs_cons, ← Int.add_assoc]
        exact ih (p + 1) _ (by omega) (by omega) (by omega)
  exact key L.length 0 _ (by omega) (by omega) (by omega)

theorem rs_mono {L : List S43} (hok : ∀ x ∈ L, okp x) {u v : Int} (h : u ≤ v) : rs L u ≤ rs L v := by
  induction L with
  | nil => simp [rs_nil]
  | cons x L ih =>
    obtain ⟨a, b, c, _⟩ := hok x (List.mem_cons_self ..)
    have h1 : rq x u ≤ rq x v := Int.mul_le_mul_of_nonneg_left (cl_mono a h) (by omega)
    have := ih (fun y hy => hok y (List.mem_cons_of_mem _ hy))
    rw [rs_cons, rs_cons]; omega
theorem busyA {L : List S43} (hok : ∀ x ∈ L, okp x) (h8 : L.length ≤ 8) {m : Int} (m1 : m ≤ 65536) (hm : rs L m ≤ m) (hlt : ∀ u, 1 ≤ u → u < m → u < rs L u) :
    ∀ (d : Nat) (t : Int), t + d = m → 1 ≤ t → Evt (fun k => demand_Busy.l0 k L t) (m, none) := by
  intro d
  induction d using Nat.strongRecOn with
  | _ d ih =>
    intro t hd t0
    by_cases he : t = m
    · subst he
      exact busy_inner hok h8 (by omega) m1 (Evt.ifp hm (Evt.pure fun _ => rfl))
    · have h1 := hlt t t0 (by omega)
      have h2 := rs_mono hok (show t ≤ m by omega)
      exact busy_inner hok h8 (by omega) (by omega) (Evt.ifn (by omega) (Evt.ifn (by omega) (ih (m - rs L t).toNat (by omega) (rs L t) (by omega) (by omega))))
theorem busyB {L : List S43} (hok : ∀ x ∈ L, okp x) (h8 : L.length ≤ 8) :
    ∀ (d : Nat) (t : Int), t + d = 65537 → 1 ≤ t → t ≤ 65536 → ∃ r, Evt (fun k => demand_Busy.l0 k L t) r ∧ (r = (0, some 80) ∨ ∃ v : Int, r = (v, none) ∧ 1 ≤ v ∧ rs L v ≤ v) := by
  intro d
  induction d using Nat.strongRecOn with
  | _ d ih =>
    intro t hd t0 t1
    by_cases hle : rs L t ≤ t
    · exact ⟨_, busy_inner hok h8 (by omega) t1 (Evt.ifp hle (Evt.pure fun _ => rfl)), .inr ⟨t, rfl, t0, hle⟩⟩
    · by_cases hgt : rs L t > 65536
      · exact ⟨_, busy_inner hok h8 (by omega) t1 (Evt.ifn hle (Evt.ifp hgt (Evt.pure fun _ => rfl))), .inl rfl⟩
      · obtain ⟨r, h1, h2⟩ := ih (65537 - rs L t).toNat (by omega) (rs L t) (by omega) (by omega) (by omega)
        exact ⟨r, busy_inner hok h8 (by omega) t1 (Evt.ifn hle (Evt.ifn hgt h1)), h2⟩
theorem Busy_of {l : List S43} (hok : ∀ x ∈ l, okp x) (h8 : l.length ≤ 8) {p : Nat} (hp : p < (ol l).length) {r : Int × Option Int} (h : Evt (fun k => demand_Busy.l0 k (pre l (p + 1)) 1) r) :
    Evt (fun k => demand_Busy.f k l ((ol l)[p] : Int)) r := by
  have hj := ol_mem.1 (List.getElem_mem hp)
  have hpl := place_evt (l := l) (by omega) ((ol l)[p] : Int)
  rw [if_pos (vcode_ok.2 ⟨h8, hok⟩), if_pos (by omega)] at hpl
  have hal := ahl_len hj
  have hae := ahead_evt h8 (ol l)[p]
  rw [ahl_pre hp] at hal hae
  unfold demand_Busy.f
  rw [pre_succ hp] at h
  refine Evt.bind hpl (Evt.ifp rfl (Evt.bind hae (Evt.ifp (by omega) (Evt.ifp (by omega) (Evt.call (a := [rd_T43 l ((ol l)[p] : Int)]) rfl (Evt.ifp ?_ h))))))
  rw [List.length_singleton]; omega
theorem rs_step {L : List S43} (hok : ∀ x ∈ L, okp x) (u : Int) : rs L (u + 1) = rs L u + (L.map fun x => if u % x.f0 = 0 then x.f1 else 0).sum := by
  induction L with
  | nil => simp [rs_nil]
  | cons x L ih =>
    obtain ⟨a, _⟩ := hok x (List.mem_cons_self ..)
    have := ih (fun y hy => hok y (List.mem_cons_of_mem _ hy))
    rw [rs_cons, rs_cons, this, List.map_cons, List.sum_cons]
    have h1 : rq x (u + 1) = rq x u + if u % x.f0 = 0 then x.f1 else 0 := by
      unfold rq
      rw [cl_step a]
      split <;> rw [Int.mul_add] <;> omega
    omega
theorem rs_zero {L : List S43} (hok : ∀ x ∈ L, okp x) : rs L 0 = 0 := by
  induction L with
  | nil => rfl
  | cons x L ih =>
    obtain ⟨a, _⟩ := hok x (List.mem_cons_self ..)
    rw [rs_cons, ih (fun y hy => hok y (List.mem_cons_of_mem _ hy))]
    unfold rq; rw [cl_zero a, Int.mul_zero]; rfl
theorem rs_pos {L : List S43} (hok : ∀ x ∈ L, okp x) (hne : L ≠ []) {u : Int} (hu : 1 ≤ u) : 1 ≤ rs L u := by
  cases L with
  | nil => exact absurd rfl hne
  | cons x L =>
    obtain ⟨a, b, c, _⟩ := hok x (List.mem_cons_self ..)
    have h0 := rs_mono (L := L) (fun y hy => hok y (List.mem_cons_of_mem _ hy)) (show (0 : Int) ≤ u by omega)
    rw [rs_zero (fun y hy => hok y (List.mem_cons_of_mem _ hy))] at h0
    have h1 : cl x.f0 1 ≤ cl x.f0 u := cl_mono a hu
    have h2 : cl x.f0 1 = 1 := by have := cl_step (e := x.f0) (u := 0) a; rw [cl_zero a] at this; simpa using this
    have h3 : x.f1 * 1 ≤ rq x u := Int.mul_le_mul_of_nonneg_left (by omega) (by omega)
    rw [rs_cons]; omega

theorem rdo {l : List S43} {p : Nat} (hp : p < (ol l).length) : rd (ordl l) (p : Int) = ((ol l)[p] : Int) := by rw [ordl_eq]; exact rd_map (ol l) hp
theorem lo {l : List S43} : (ordl l).length = l.length := by rw [ordl_eq, List.length_map, ol_length]
/-- what is released at u, of the first i of the order -/
def rl (l : List S43) (u : Int) (i : Nat) : Int := ((pre l i).map fun x => if u % x.f0 = 0 then x.f1 else 0).sum
theorem rl_zero (l : List S43) (u : Int) : rl l u 0 = 0 := by unfold rl pre; simp
theorem rl_succ {l : List S43} {u : Int} {i : Nat} (hi : i < (ol l).length) : rl l u (i + 1) = rl l u i + if u % (rd_T43 l ((ol l)[i] : Int)).f0 = 0 then (rd_T43 l ((ol l)[i] : Int)).f1 else 0 := by
  unfold rl; rw [pre_succ hi, List.map_append, List.sum_append]; simp
theorem rl_bounds {l : List S43} (hok : ∀ x ∈ l, okp x) (u : Int) : ∀ i : Nat, i ≤ (ol l).length → 0 ≤ rl l u i ∧ rl l u i ≤ i * 1048576 := by
  intro i
  induction i with
  | zero => intro _; rw [rl_zero]; omega
  | succ i ih =>
    intro hi
    have h1 := ih (by omega)
    have hm := ol_mem.1 (List.getElem_mem (show i < (ol l).length by omega))
    have hx := hok _ (List.getElem_mem hm)
    rw [← rd_get hm] at hx
    obtain ⟨_, _, c1, c2, _⟩ := hx
    rw [rl_succ (by omega)]
    split <;> omega
/-- where the play stands at tick u -/
def Tk (l : List S43) (p : Nat) (u left first : Int) : Prop :=
  (first = 0 ∧ left = rs (pre l (p + 1)) u - u ∧ ∀ v, 1 ≤ v → v < u → v < rs (pre l (p + 1)) v) ∨
  (1 ≤ first ∧ first ≤ 2000 ∧ rs (pre l (p + 1)) first ≤ first ∧ ∀ v, 1 ≤ v → v < first → v < rs (pre l (p + 1)) v)
theorem tk_start {l : List S43} (hok : ∀ x ∈ l, okp x) {p : Nat} : Tk l p 0 0 0 := Or.inl ⟨rfl, by rw [rs_zero (pre_ok hok _)]; rfl, fun v a b => by omega⟩
theorem rs_up {l : List S43} (hok : ∀ x ∈ l, okp x) (h8 : l.length ≤ 8) {p : Nat} (hp : p < (ol l).length) {u : Int} (h0 : 0 ≤ u) (h1 : u ≤ 2001) : 0 ≤ rs (pre l (p + 1)) u ∧ rs (pre l (p + 1)) u ≤ 16793993216 := by
  have hpok := pre_ok hok (p + 1)
  have hol := ol_length l
  have hlen : (pre l (p + 1)).length = p + 1 := pre_len (by omega)
  have hall : ∀ L : List S43, (∀ x ∈ L, okp x) → 0 ≤ rs L u ∧ rs L u ≤ L.length * 2098200576 := by
    intro L hL
    induction L with
    | nil => simp [rs_nil]
    | cons x L ihL =>
      obtain ⟨a, b, c, e, _⟩ := hL x (List.mem_cons_self ..)
      have q1 := cl_le a h0
      have q0 := cl_nonneg a h0
      have h2 : rq x u ≤ 1048576 * 2001 := Int.mul_le_mul e (by omega) q0 (by omega)
      have h3 : 0 ≤ rq x u := Int.mul_nonneg (by omega) q0
      have := ihL (fun y hy => hL y (List.mem_cons_of_mem _ hy))
      rw [rs_cons, List.length_cons]; omega
  have := hall _ hpok
  rw [hlen] at this
  omega
/-- one tick, the processor not idle yet -/
theorem tk_go {l : List S43} (hok : ∀ x ∈ l, okp x) (h8 : l.length ≤ 8) {p : Nat} (hp : p < (ol l).length) {u : Int} (h0 : 0 ≤ u) (h1 : u ≤ 2000) (hinv : ∀ v, 1 ≤ v → v < u → v < rs (pre l (p + 1)) v) (hz : ¬ (1 ≤ u ∧ rs (pre l (p + 1)) u - u = 0)) :
    Tk l p (u + 1) (rs (pre l (p + 1)) u - u + rl l u (p + 1) - 1) 0 := by
  have hpok := pre_ok hok (p + 1)
  have hol := ol_length l
  have hlen : (pre l (p + 1)).length = p + 1 := pre_len (by omega)
  have hst := rs_step hpok u
  refine Or.inl ⟨rfl, by unfold rl; omega, fun v v0 v1 => ?_⟩
  by_cases hv : v = u
  · subst hv
    have hge : v ≤ rs (pre l (p + 1)) v := by
      by_cases h2 : v = 1
      · subst h2; exact rs_pos hpok (fun e => by rw [e] at hlen; simp at hlen) (by omega)
      · have := hinv (v - 1) (by omega) (by omega)
        have := rs_mono hpok (show v - 1 ≤ v by omega)
        omega
    omega
  · exact hinv v v0 (by omega)
theorem tk_stop {l : List S43} (hok : ∀ x ∈ l, okp x) (h8 : l.length ≤ 8) {p : Nat} (hp : p < (ol l).length) {u : Int} (h1 : u ≤ 2000) (hinv : ∀ v, 1 ≤ v → v < u → v < rs (pre l (p + 1)) v) (hz : 1 ≤ u ∧ rs (pre l (p + 1)) u - u = 0) (m left : Int) : Tk l p m left u :=
  Or.inr ⟨hz.1, h1, by omega, hinv⟩
/-- Busy, behind the play -/
theorem tk_busy {l : List S43} (hok : ∀ x ∈ l, okp x) (h8 : l.length ≤ 8) {p : Nat} (hp : p < (ol l).length) {u left first : Int} (h : Tk l p u left first) (hu : first = 0 → u = 2001) :
    ∃ (v : Int) (e : Option Int), Evt (fun k => demand_Busy.f k l ((ol l)[p] : Int)) (v, e) ∧ ((0 < first ∧ e = none ∧ v = first) ∨ (first = 0 ∧ ((e = some 80 ∧ v = 0) ∨ (e = none ∧ 2000 < v)))) := by
  have hpok := pre_ok hok (p + 1)
  have hol := ol_length l
  have hpl : (pre l (p + 1)).length ≤ 8 := by rw [pre_len (by omega)]; omega
  rcases h with ⟨rfl, _, hinv⟩ | ⟨a0, a1, a2, a3⟩
  · have hu' := hu rfl
    obtain ⟨q, h2, h3⟩ := busyB hpok hpl 65536 1 (by omega) (by omega) (by omega)
    rcases h3 with rfl | ⟨v, rfl, v0, v1⟩
    · exact ⟨_, _, Busy_of hok h8 hp h2, Or.inr ⟨rfl, Or.inl ⟨rfl, rfl⟩⟩⟩
    · refine ⟨_, _, Busy_of hok h8 hp h2, Or.inr ⟨rfl, Or.inr ⟨rfl, ?_⟩⟩⟩
      by_cases hv : v ≤ 2000
      · have := hinv v v0 (by omega); omega
      · omega
  · exact ⟨_, _, Busy_of hok h8 hp (busyA hpok hpl (by omega) a2 a3 (first - 1).toNat 1 (by omega) (by omega)), Or.inl ⟨by omega, rfl, rfl⟩⟩
/-- two neighbours in the order: by the priorities, and their levels -/
theorem near {l : List S43} (hok : ∀ x ∈ l, okp x) (h8 : l.length ≤ 8) {q : Nat} (hq : q + 1 < (ol l).length) {T : Int} (T0 : 0 ≤ T) (T1 : T < 300) :
    ((rd_T43 l ((ol l)[q] : Int)).f3 < (rd_T43 l ((ol l)[q + 1] : Int)).f3 ∨ ((rd_T43 l ((ol l)[q] : Int)).f3 = (rd_T43 l ((ol l)[q + 1] : Int)).f3 ∧ (ol l)[q] < (ol l)[q + 1])) ∧
    ∃ a b : Int, Evt (fun k => demand_Level.f k l ((ol l)[q] : Int) T) (a, none) ∧ Evt (fun k => demand_Level.f k l ((ol l)[q + 1] : Int) T) (b, none) ∧ a - (rd_T43 l ((ol l)[q] : Int)).f1 ≤ b - (rd_T43 l ((ol l)[q + 1] : Int)).f1 ∧
      (0 ≤ a ∧ a ≤ 4611686018427387904) ∧ (0 ≤ b ∧ b ≤ 4611686018427387904) ∧ (0 ≤ (rd_T43 l ((ol l)[q] : Int)).f1 ∧ (rd_T43 l ((ol l)[q] : Int)).f1 ≤ 1048576) ∧ (0 ≤ (rd_T43 l ((ol l)[q + 1] : Int)).f1 ∧ (rd_T43 l ((ol l)[q + 1] : Int)).f1 ≤ 1048576) := by
  have hol := ol_length l
  have hql : q < (ol l).length := by omega
  have hmq := ol_mem.1 (List.getElem_mem hql)
  have hm := ol_mem.1 (List.getElem_mem hq)
  have hs := List.pairwise_iff_getElem.1 (ol_sorted l) q (q + 1) hql hq (by omega)
  unfold ab at hs
  rw [decide_eq_true_eq] at hs
  have L1 := Level_val hok h8 hmq (t := T) (by omega)
  have L2 := Level_val hok h8 hm (t := T) (by omega)
  rw [ahl_pre hql] at L1
  rw [ahl_pre hq, pre_succ hql] at L2
  have hx1 := hok _ (List.getElem_mem hmq)
  have hx2 := hok _ (List.getElem_mem hm)
  rw [← rd_get hmq] at hx1
  rw [← rd_get hm] at hx2
  have b1 := rs_bounds (pre_ok hok q) (t := T) (by omega) (by omega)
  rw [pre_len (by omega)] at b1
  have b2 := rq_bounds hx1 (t := T) (by omega) (by omega)
  obtain ⟨_, _, c1, c2, _⟩ := hx1
  obtain ⟨_, _, d1, d2, _⟩ := hx2
  have e1 : rs (pre l q ++ [rd_T43 l ((ol l)[q] : Int)]) T = rs (pre l q) T + rq (rd_T43 l ((ol l)[q] : Int)) T := by rw [rs_append, rs_cons, rs_nil, Int.add_zero]
  rw [e1] at L2
  exact ⟨hs, _, _, L1, L2, by omega, by omega, by omega, by omega, by omega⟩
end Go.Proofs.YtdonlmbhamcjdaaRRR.Ser
