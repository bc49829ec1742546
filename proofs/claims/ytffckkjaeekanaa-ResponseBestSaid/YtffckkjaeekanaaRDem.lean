/- What the functions of the package demand answer for one entry, and for all: plain numbers. No conditions. -/
import Derived.Test.YtffckkjaeekanaaAid
import Derived.Test.YtffckkjaeekanaaLst
import Derived.Test.YtffckkjaeekanaaBx5
import Derived.Test.YtffckkjaeekanaaBx2
import Derived.Test.YtffckkjaeekanaaBx11
import Derived.Test.YtffckkjaeekanaaBx12
import Derived.Test.YtffckkjaeekanaaBx12
namespace Go.Proofs.Ytffckkjaeekanaa.Pure
open Go Go.RowKit Tithe Go.Proofs.Ytffckkjaeekanaa.B Go.Proofs.YtffckkjaeekanaaW.PrintWords Go.Proofs.YtffckkjaeekanaaW.PrintLast Go.Proofs.YtffckkjaeekanaaW.PrintMore

theorem Evt.of_mono {α : Type} {g : Nat → Option α} {r : α} (hm : ∀ k, LeO (g k) (g (k + 1))) {K : Nat} (h : g K = some r) : Evt g r := by
  refine ⟨K, fun k hk => ?_⟩
  obtain ⟨d, rfl⟩ : ∃ d, k = K + d := ⟨k - K, by omega⟩
  clear hk
  induction d with
  | zero => exact h
  | succ d ih => exact hm (K + d) r ih

/-- an error's number -/
def nm (e : Option Int) : Int := e.getD 0
/-- an entry that may be -/
def okp (x : S39) : Prop := 1 ≤ x.f0 ∧ x.f0 ≤ 1048576 ∧ 1 ≤ x.f1 ∧ x.f1 ≤ 1048576 ∧ 1 ≤ x.f2 ∧ x.f2 ≤ x.f0 ∧ 0 ≤ x.f3 ∧ x.f3 ≤ 31
instance (x : S39) : Decidable (okp x) := by unfold okp; infer_instance

theorem valid_eq (x : S39) : demand_valid.f x.f0 x.f1 x.f2 x.f3 = some (decide (okp x)) := by
  unfold demand_valid.f demand_is.f
  by_cases h1 : x.f0 ≥ 1
  · rw [if_pos h1]
    by_cases h2 : x.f0 ≤ 1048576
    · simp only [Option.bind_some, decide_eq_true h2, if_true]
      by_cases h3 : x.f1 ≥ 1
      · rw [if_pos h3]
        by_cases h4 : x.f1 ≤ 1048576
        · simp only [Option.bind_some, decide_eq_true h4, if_true]
          by_cases h5 : x.f2 ≥ 1
          · rw [if_pos h5]
            by_cases h6 : x.f2 ≤ x.f0
            · simp only [Option.bind_some, decide_eq_true h6, if_true]
              by_cases h7 : x.f3 ≥ 0
              · rw [if_pos h7]
                simp only [Option.bind_some]
                congr 1
                by_cases h8 : x.f3 ≤ 31
                · rw [decide_eq_true h8, decide_eq_true (show okp x from ⟨h1, h2, h3, h4, h5, h6, h7, h8⟩)]
                · rw [decide_eq_false h8, decide_eq_false (show ¬ okp x by unfold okp; omega)]
              · rw [if_neg h7]; simp only [Option.bind_some]; rw [decide_eq_false (show ¬ okp x by unfold okp; omega)]
            · simp only [Option.bind_some, decide_eq_false h6, Bool.false_eq_true, if_false]; rw [decide_eq_false (show ¬ okp x by unfold okp; omega)]
          · rw [if_neg h5]; simp only [Option.bind_some, Bool.false_eq_true, if_false]; rw [decide_eq_false (show ¬ okp x by unfold okp; omega)]
        · simp only [Option.bind_some, decide_eq_false h4, Bool.false_eq_true, if_false]; rw [decide_eq_false (show ¬ okp x by unfold okp; omega)]
      · rw [if_neg h3]; simp only [Option.bind_some, Bool.false_eq_true, if_false]; rw [decide_eq_false (show ¬ okp x by unfold okp; omega)]
    · simp only [Option.bind_some, decide_eq_false h2, Bool.false_eq_true, if_false]; rw [decide_eq_false (show ¬ okp x by unfold okp; omega)]
  · rw [if_neg h1]; simp only [Option.bind_some, Bool.false_eq_true, if_false]; rw [decide_eq_false (show ¬ okp x by unfold okp; omega)]

theorem One_eq (x : S39) : titheref20_One.f x.f0 x.f1 x.f2 x.f3 = some (if okp x then 0 else 2) := by
  unfold titheref20_One.f
  by_cases h : okp x
  · have h' := h
    unfold okp at h'
    rw [if_pos h, if_neg (by omega), if_neg (by omega), if_neg (by omega), if_neg (by omega), if_neg (by omega), if_neg (by omega), if_neg (by omega), if_neg (by omega)]
  · rw [if_neg h]
    have h' := h
    unfold okp at h'
    repeat' (first | rfl | (split) | (exfalso; apply h'; omega))

/-- how many periods begin ahead of u -/
def cl (e u : Int) : Int := (u + e - 1) / e
/-- what an entry can ask for -/
def rq (x : S39) (t : Int) : Int := x.f1 * cl x.f0 t

theorem cl_split {e q r : Int} (h0 : 0 ≤ r) (h1 : r < e) : cl e (q * e + r) = if r = 0 then q else q + 1 := by
  unfold cl
  by_cases h : r = 0
  · rw [if_pos h, show q * e + r + e - 1 = q * e + (e - 1) by omega, div_mul_add (by omega) (by omega)]
  · rw [if_neg h, show q * e + r + e - 1 = (q + 1) * e + (r - 1) by rw [Int.add_mul]; omega, div_mul_add (by omega) (by omega)]
theorem cl_nonneg {e u : Int} (he : 1 ≤ e) (hu : 0 ≤ u) : 0 ≤ cl e u := Int.ediv_nonneg (by omega) (by omega)
theorem cl_le {e u : Int} (he : 1 ≤ e) (hu : 0 ≤ u) : cl e u ≤ u := by
  obtain ⟨q, r, rfl, h0, h1⟩ := split u (p := e) (by omega)
  rw [cl_split h0 h1]
  have hq : 0 ≤ q := by
    by_cases hq : 0 ≤ q
    · exact hq
    · have : q * e ≤ -1 * e := Int.mul_le_mul_of_nonneg_right (by omega) (by omega)
      omega
  have : q * 1 ≤ q * e := Int.mul_le_mul_of_nonneg_left he hq
  split <;> omega
theorem cl_mono {e u v : Int} (he : 1 ≤ e) (h : u ≤ v) : cl e u ≤ cl e v := Int.ediv_le_ediv (by omega) (by omega)
theorem cl_zero {e : Int} (he : 1 ≤ e) : cl e 0 = 0 := by
  have := cl_split (e := e) (q := 0) (r := 0) (by omega) (by omega)
  simpa using this
theorem cl_add {e u v : Int} (he : 1 ≤ e) : cl e (u + v) ≤ cl e u + cl e v := by
  obtain ⟨q, r, rfl, h0, h1⟩ := split u (p := e) (by omega)
  obtain ⟨q', r', rfl, h0', h1'⟩ := split v (p := e) (by omega)
  rw [cl_split h0 h1, cl_split h0' h1']
  by_cases h : r + r' < e
  · rw [show q * e + r + (q' * e + r') = (q + q') * e + (r + r') by rw [Int.add_mul]; omega, cl_split (by omega) h]
    repeat' split
    all_goals omega
  · rw [show q * e + r + (q' * e + r') = (q + q' + 1) * e + (r + r' - e) by rw [Int.add_mul, Int.add_mul]; omega, cl_split (by omega) (by omega)]
    repeat' split
    all_goals omega
theorem cl_mult {e u v : Int} (he : 1 ≤ e) (h : u % e = 0) : cl e (u + v) = cl e u + cl e v := by
  obtain ⟨q, r, rfl, h0, h1⟩ := split u (p := e) (by omega)
  obtain ⟨q', r', rfl, h0', h1'⟩ := split v (p := e) (by omega)
  have hr : r = 0 := by
    rw [Int.add_comm, Int.add_mul_emod_self_right, Int.emod_eq_of_lt h0 h1] at h; exact h
  subst hr
  rw [show q * e + 0 + (q' * e + r') = (q + q') * e + r' by rw [Int.add_mul]; omega, cl_split h0' h1', cl_split h0' h1', cl_split (by omega) h1, if_pos rfl]
  split <;> omega
theorem cl_step {e u : Int} (he : 1 ≤ e) : cl e (u + 1) = cl e u + if u % e = 0 then 1 else 0 := by
  obtain ⟨q, r, rfl, h0, h1⟩ := split u (p := e) (by omega)
  have hr : (q * e + r) % e = r := by rw [Int.add_comm, Int.add_mul_emod_self_right, Int.emod_eq_of_lt h0 h1]
  rw [hr, cl_split h0 h1]
  by_cases h : r + 1 < e
  · rw [show q * e + r + 1 = q * e + (r + 1) by omega, cl_split (by omega) h]
    repeat' split
    all_goals omega
  · rw [show q * e + r + 1 = (q + 1) * e + 0 by rw [Int.add_mul]; omega, cl_split (by omega) (by omega)]
    repeat' split
    all_goals omega

theorem rq_bounds {x : S39} (hx : okp x) {t : Int} (h0 : 0 ≤ t) (h1 : t ≤ 2147483648) : 0 ≤ rq x t ∧ rq x t ≤ 2251799813685248 := by
  obtain ⟨a, b, c, d, _⟩ := hx
  have e0 := cl_nonneg a h0
  have e1 := cl_le a h0
  unfold rq
  refine ⟨Int.mul_nonneg (by omega) e0, ?_⟩
  have : x.f1 * cl x.f0 t ≤ 1048576 * 2147483648 := Int.mul_le_mul d (by omega) e0 (by omega)
  omega

theorem requests_ok {x : S39} (hx : okp x) {t : Int} (h0 : 0 ≤ t) (h1 : t ≤ 2147483648) : demand_requests.f x.f0 x.f1 x.f2 x.f3 t = some (rq x t) := by
  have hb := rq_bounds hx h0 h1
  obtain ⟨a, b, c, d, _⟩ := hx
  unfold demand_requests.f
  have e0 := cl_nonneg a h0
  have e1 := cl_le a h0
  rw [if_neg (by omega), w64 (n := t + x.f0) (by omega) (by omega), w64 (n := t + x.f0 - 1) (by omega) (by omega), tdiv_pos (by omega)]
  show some (wrap64 (x.f1 * wrap64 (cl x.f0 t))) = _
  rw [w64 (n := cl x.f0 t) (by omega) (by omega)]
  unfold rq at *
  rw [w64 (by omega) (by omega)]
theorem ref_requests_ok {x : S39} (hx : okp x) {t : Int} (h0 : 0 ≤ t) (h1 : t ≤ 2147483648) : titheref20_requests.f x.f0 x.f1 x.f2 x.f3 t = some (rq x t) := by
  have hb := rq_bounds hx h0 h1
  obtain ⟨a, b, c, d, _⟩ := hx
  unfold titheref20_requests.f
  have e0 := cl_nonneg a h0
  have e1 := cl_le a h0
  rw [if_neg (by omega), w64 (n := t + x.f0) (by omega) (by omega), w64 (n := t + x.f0 - 1) (by omega) (by omega), tdiv_pos (by omega)]
  show some (wrap64 (wrap64 (cl x.f0 t) * x.f1)) = _
  rw [w64 (n := cl x.f0 t) (by omega) (by omega), Int.mul_comm]
  unfold rq at *
  rw [w64 (by omega) (by omega)]

theorem rd_get {l : List S39} {i : Nat} (h : i < l.length) : rd_T39 l (i : Int) = l[i] := by
  simp [rd_T39, List.getD, List.getElem?_eq_getElem h]

/-- the error of all work -/
def vcode (l : List S39) : Int := if l.length > 8 then 3 else if ∀ x ∈ l, okp x then 0 else 2
def verr (l : List S39) : Option Int := if vcode l = 0 then none else some (vcode l)
theorem vcode_ok {l : List S39} : vcode l = 0 ↔ l.length ≤ 8 ∧ ∀ x ∈ l, okp x := by
  unfold vcode
  by_cases h : l.length > 8
  · rw [if_pos h]; constructor
    · intro h; omega
    · rintro ⟨a, _⟩; omega
  · rw [if_neg h]
    by_cases h2 : ∀ x ∈ l, okp x
    · rw [if_pos h2]; exact ⟨fun _ => ⟨by omega, h2⟩, fun _ => rfl⟩
    · rw [if_neg h2]; exact ⟨fun h => by omega, fun h => absurd h.2 h2⟩

theorem Valid_evt (l : List S39) (hl : l.length ≤ 4398046511104) : Evt (fun k => demand_Valid.f k l) (verr l) := by
  unfold demand_Valid.f
  by_cases h8 : (l.length : Int) > 8
  · refine Evt.ifp h8 (Evt.pure fun _ => ?_)
    have hv : vcode l = 3 := by unfold vcode; rw [if_pos (by omega)]
    unfold verr; rw [hv]; rfl
  · refine Evt.ifn h8 ?_
    have key : ∀ (d i : Nat), i + d = l.length → (∀ x ∈ l.take i, okp x) → Evt (fun k => demand_Valid.l0 k l (l.length : Int) i) (verr l) := by
      intro d
      induction d with
      | zero =>
        intro i hi hall
        refine Evt.succ (Evt.pure fun k => ?_)
        simp only [demand_Valid.l0]
        rw [if_neg (by omega)]
        rw [List.take_of_length_le (by omega)] at hall
        unfold verr; rw [if_pos (vcode_ok.2 ⟨by omega, hall⟩)]
      | succ d ih =>
        intro i hi hall
        refine Evt.succ ?_
        simp only [demand_Valid.l0]
        rw [w1 i (by omega)]
        refine Evt.ifp (by omega) (Evt.ifp (by omega) (Evt.ifp (by omega) (Evt.call (a := decide (okp l[i])) ?_ ?_)))
        · rw [rd_get (by omega)]; exact valid_eq _
        · by_cases hx : okp l[i]
          · refine Evt.ifp (decide_eq_true hx) (ih (i + 1) (by omega) ?_)
            rw [List.take_succ_eq_append_getElem (by omega)]
            intro x hx'
            rcases List.mem_append.1 hx' with h | h
            · exact hall x h
            · rw [List.mem_singleton.1 h]; exact hx
          · refine Evt.ifn (by rw [decide_eq_false hx]; simp) (Evt.pure fun _ => ?_)
            have hv : vcode l = 2 := by
              unfold vcode; rw [if_neg (by omega), if_neg (fun h => hx (h _ (List.getElem_mem _)))]
            unfold verr; rw [hv]; rfl
    exact key l.length 0 (by omega) (by simp)

theorem refValid_evt (l : List S39) (hl : l.length ≤ 4398046511104) : Evt (fun k => titheref20_Valid.f k l) (vcode l) := by
  unfold titheref20_Valid.f
  by_cases h8 : (l.length : Int) > 8
  · refine Evt.ifp h8 (Evt.pure fun _ => ?_)
    unfold vcode; rw [if_pos (by omega)]
  · refine Evt.ifn h8 ?_
    have key : ∀ (d i : Nat), i + d = l.length → (∀ x ∈ l.take i, okp x) → Evt (fun k => titheref20_Valid.l0 k l i) (vcode l) := by
      intro d
      induction d with
      | zero =>
        intro i hi hall
        refine Evt.succ (Evt.pure fun k => ?_)
        simp only [titheref20_Valid.l0]
        rw [if_neg (by omega)]
        rw [List.take_of_length_le (by omega)] at hall
        rw [vcode_ok.2 ⟨by omega, hall⟩]
      | succ d ih =>
        intro i hi hall
        refine Evt.succ ?_
        simp only [titheref20_Valid.l0]
        rw [w1 i (by omega)]
        refine Evt.ifp (by omega) (Evt.ifp (by omega) (Evt.call (a := if okp l[i] then 0 else 2) ?_ ?_))
        · rw [rd_get (by omega)]; exact One_eq _
        · by_cases hx : okp l[i]
          · rw [if_pos hx]
            refine Evt.ifp rfl (ih (i + 1) (by omega) ?_)
            rw [List.take_succ_eq_append_getElem (by omega)]
            intro x hx'
            rcases List.mem_append.1 hx' with h | h
            · exact hall x h
            · rw [List.mem_singleton.1 h]; exact hx
          · rw [if_neg hx]
            refine Evt.ifn (by omega) (Evt.pure fun _ => ?_)
            unfold vcode; rw [if_neg (by omega), if_neg (fun h => hx (h _ (List.getElem_mem _)))]
    exact key l.length 0 (by omega) (by simp)

theorem nm_verr (l : List S39) : nm (verr l) = vcode l := by
  unfold nm verr
  by_cases h : vcode l = 0
  · rw [if_pos h, h]; rfl
  · rw [if_neg h]; rfl
theorem time_eq (t : Int) : titheref20_time.f t = some (decide (0 ≤ t ∧ t ≤ 1073741824)) := by
  unfold titheref20_time.f
  by_cases h : t ≥ 0
  · rw [if_pos h]
    by_cases h2 : t ≤ 1073741824
    · rw [decide_eq_true h2, decide_eq_true (⟨h, h2⟩)]
    · rw [decide_eq_false h2, decide_eq_false (by omega)]
  · rw [if_neg h, decide_eq_false (by omega)]
theorem is_eq (a b c : Int) : demand_is.f a b c = some (decide (b ≤ a ∧ a ≤ c)) := by
  unfold demand_is.f
  by_cases h : a ≥ b
  · rw [if_pos h]
    by_cases h2 : a ≤ c
    · rw [decide_eq_true h2, decide_eq_true (⟨h, h2⟩)]
    · rw [decide_eq_false h2, decide_eq_false (by omega)]
  · rw [if_neg h, decide_eq_false (by omega)]
end Go.Proofs.Ytffckkjaeekanaa.Pure
