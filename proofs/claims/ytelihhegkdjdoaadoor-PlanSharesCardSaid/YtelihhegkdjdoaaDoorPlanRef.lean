/- Work and rows of reservations: the program's answers and the document's are one. No conditions. -/
import Derived.Test.YtelihhegkdjdoaaDoorAid
import Derived.Test.YtelihhegkdjdoaaDoorRsv
import Derived.Test.YtelihhegkdjdoaaDoorMx5
import Derived.Test.YtelihhegkdjdoaaDoorMx2
import Derived.Test.YtelihhegkdjdoaaDoorMx4
import Derived.Test.YtelihhegkdjdoaaDoorMx5
import Derived.Test.YtelihhegkdjdoaaDoorMx3
import Derived.Test.YtelihhegkdjdoaaDoorMx5
import Derived.Test.YtelihhegkdjdoaaDoorMx3
import Derived.Test.YtelihhegkdjdoaaDoorMx6
import Derived.Test.YtelihhegkdjdoaaDoorMx2
import Derived.Test.YtelihhegkdjdoaaDoorMx3
import Derived.Test.YtelihhegkdjdoaaDoorMx5
import Derived.Test.YtelihhegkdjdoaaDoorMx3
import Derived.Test.YtelihhegkdjdoaaDoorMx7
import Derived.Test.YtelihhegkdjdoaaDoorMx7
import Derived.Test.YtelihhegkdjdoaaDoorMx11
import Derived.Test.YtelihhegkdjdoaaDoorMx12
import Derived.Test.YtelihhegkdjdoaaDoorMx12
import Derived.Test.YtelihhegkdjdoaaDoorMx12
import Derived.Test.YtelihhegkdjdoaaDoorMx13
import Derived.Test.YtelihhegkdjdoaaDoorMx14
import Derived.Test.YtelihhegkdjdoaaDoorMx14
import Derived.Test.YtelihhegkdjdoaaDoorMx12
import Derived.Test.YtelihhegkdjdoaaDoorMx12
import Derived.Test.YtelihhegkdjdoaaDoorMx14
namespace Go.Proofs.YtelihhegkdjdoaaDoor.Pure
open Go Go.RowKit Tithe Go.Proofs.YtelihhegkdjdoaaDoor.M Go.Proofs.YtelihhegkdjdoaaDoorW.PrintWords Go.Proofs.YtelihhegkdjdoaaDoorW.PrintLast Go.Proofs.YtelihhegkdjdoaaDoorW.PrintMore

theorem Evt.of_mono {α : Type} {g : Nat → Option α} {r : α} (hm : ∀ k, LeO (g k) (g (k + 1))) {K : Nat} (h : g K = some r) : Evt g r := by
  refine ⟨K, fun k hk => ?_⟩
  obtain ⟨d, rfl⟩ : ∃ d, k = K + d := ⟨k - K, by omega⟩
  clear hk
  induction d with
  | zero => exact h
  | succ d ih => exact hm (K + d) r ih

/-- an error's number -/
def nm (e : Option Int) : Int := e.getD 0
/-- an entry that may be -/
def okp (x : S52) : Prop := 1 ≤ x.f0 ∧ x.f0 ≤ 1048576 ∧ 1 ≤ x.f1 ∧ x.f1 ≤ 1048576 ∧ 1 ≤ x.f2 ∧ x.f2 ≤ x.f0 ∧ 0 ≤ x.f3 ∧ x.f3 ≤ 31
instance (x : S52) : Decidable (okp x) := by unfold okp; infer_instance

theorem valid_eq (x : S52) : demand_valid.f x.f0 x.f1 x.f2 x.f3 = some (decide (okp x)) := by
  unfold demand_valid.f demand_is.f
  by_cases h1 : x.f0 ≥ 1
  · rw [if_pos h1]
    by_cases h2 : x.f0 ≤ 1048576
    · simp only [Option.bind_some, decide_eq_true h2, if_true]
      by_cases h3 : x.f1 ≥ 1
      · rw [if_pos h3]
        by_cases h4 : x.f1 ≤ 1048576
        · simp only [Option.bind_some, decide_eq_true h4, if_true]
          by_cases h5 : x.f2 ≥ 1
          · rw [if_pos h5]
            by_cases h6 : x.f2 ≤ x.f0
            · simp only [Option.bind_some, decide_eq_true h6, if_true]
              by_cases h7 : x.f3 ≥ 0
              · rw [if_pos h7]
                simp only [Option.bind_some]
                congr 1
                by_cases h8 : x.f3 ≤ 31
                · rw [decide_eq_true h8, decide_eq_true (show okp x from ⟨h1, h2, h3, h4, h5, h6, h7, h8⟩)]
                · rw [decide_eq_false h8, decide_eq_false (show ¬ okp x by unfold okp; omega)]
              · rw [if_neg h7]; simp only [Option.bind_some]; rw [decide_eq_false (show ¬ okp x by unfold okp; omega)]
            · simp only [Option.bind_some, decide_eq_false h6, Bool.false_eq_true, if_false]; rw [decide_eq_false (show ¬ okp x by unfold okp; omega)]
          · rw [if_neg h5]; simp only [Option.bind_some, Bool.false_eq_true, if_false]; rw [decide_eq_false (show ¬ okp x by unfold okp; omega)]
        · simp only [Option.bind_some, decide_eq_false h4, Bool.false_eq_true, if_false]; rw [decide_eq_false (show ¬ okp x by unfold okp; omega)]
      · rw [if_neg h3]; simp only [Option.bind_some, Bool.false_eq_true, if_false]; rw [decide_eq_false (show ¬ okp x by unfold okp; omega)]
    · simp only [Option.bind_some, decide_eq_false h2, Bool.false_eq_true, if_false]; rw [decide_eq_false (show ¬ okp x by unfold okp; omega)]
  · rw [if_neg h1]; simp only [Option.bind_some, Bool.false_eq_true, if_false]; rw [decide_eq_false (show ¬ okp x by unfold okp; omega)]

theorem One_eq (x : S52) : titheref20_One.f x.f0 x.f1 x.f2 x.f3 = some (if okp x then 0 else 2) := by
  unfold titheref20_One.f
  by_cases h : okp x
  · have h' := h
    unfold okp at h'
    rw [if_pos h, if_neg (by omega), if_neg (by omega), if_neg (by omega), if_neg (by omega), if_neg (by omega), if_neg (by omega), if_neg (by omega), if_neg (by omega)]
  · rw [if_neg h]
    have h' := h
    unfold okp at h'
    repeat' (first | rfl | (split) | (exfalso; apply h'; omega))

/-- how many periods begin ahead of u -/
def cl (e u : Int) : Int := (u + e - 1) / e
/-- what an entry can ask for -/
def rq (x : S52) (t : Int) : Int := x.f1 * cl x.f0 t

theorem cl_split {e q r : Int} (h0 : 0 ≤ r) (h1 : r < e) : cl e (q * e + r) = if r = 0 then q else q + 1 := by
  unfold cl
  by_cases h : r = 0
  · rw [if_pos h, show q * e + r + e - 1 = q * e + (e - 1) by omega, div_mul_add (by omega) (by omega)]
  · rw [if_neg h, show q * e + r + e - 1 = (q + 1) * e + (r - 1) by rw [Int.add_mul]; omega, div_mul_add (by omega) (by omega)]
theorem cl_nonneg {e u : Int} (he : 1 ≤ e) (hu : 0 ≤ u) : 0 ≤ cl e u := Int.ediv_nonneg (by omega) (by omega)
theorem cl_le {e u : Int} (he : 1 ≤ e) (hu : 0 ≤ u) : cl e u ≤ u := by
  obtain ⟨q, r, rfl, h0, h1⟩ := split u (p := e) (by omega)
  rw [cl_split h0 h1]
  have hq : 0 ≤ q := by
    by_cases hq : 0 ≤ q
    · exact hq
    · have : q * e ≤ -1 * e := Int.mul_le_mul_of_nonneg_right (by omega) (by omega)
      omega
  have : q * 1 ≤ q * e := Int.mul_le_mul_of_nonneg_left he hq
  split <;> omega
theorem cl_mono {e u v : Int} (he : 1 ≤ e) (h : u ≤ v) : cl e u ≤ cl e v := Int.ediv_le_ediv (by omega) (by omega)
theorem cl_zero {e : Int} (he : 1 ≤ e) : cl e 0 = 0 := by
  have := cl_split (e := e) (q := 0) (r := 0) (by omega) (by omega)
  simpa using this
theorem cl_add {e u v : Int} (he : 1 ≤ e) : cl e (u + v) ≤ cl e u + cl e v := by
  obtain ⟨q, r, rfl, h0, h1⟩ := split u (p := e) (by omega)
  obtain ⟨q', r', rfl, h0', h1'⟩ := split v (p := e) (by omega)
  rw [cl_split h0 h1, cl_split h0' h1']
  by_cases h : r + r' < e
  · rw [show q * e + r + (q' * e + r') = (q + q') * e + (r + r') by rw [Int.add_mul]; omega, cl_split (by omega) h]
    repeat' split
    all_goals omega
  · rw [show q * e + r + (q' * e + r') = (q + q' + 1) * e + (r + r' - e) by rw [Int.add_mul, Int.add_mul]; omega, cl_split (by omega) (by omega)]
    repeat' split
    all_goals omega
theorem cl_mult {e u v : Int} (he : 1 ≤ e) (h : u % e = 0) : cl e (u + v) = cl e u + cl e v := by
  obtain ⟨q, r, rfl, h0, h1⟩ := split u (p := e) (by omega)
  obtain ⟨q', r', rfl, h0', h1'⟩ := split v (p := e) (by omega)
  have hr : r = 0 := by
    rw [Int.add_comm, Int.add_mul_emod_self_right, Int.emod_eq_of_lt h0 h1] at h; exact h
  subst hr
  rw [show q * e + 0 + (q' * e + r') = (q + q') * e + r' by rw [Int.add_mul]; omega, cl_split h0' h1', cl_split h0' h1', cl_split (by omega) h1, if_pos rfl]
  split <;> omega
theorem cl_step {e u : Int} (he : 1 ≤ e) : cl e (u + 1) = cl e u + if u % e = 0 then 1 else 0 := by
  obtain ⟨q, r, rfl, h0, h1⟩ := split u (p := e) (by omega)
  have hr : (q * e + r) % e = r := by rw [Int.add_comm, Int.add_mul_emod_self_right, Int.emod_eq_of_lt h0 h1]
  rw [hr, cl_split h0 h1]
  by_cases h : r + 1 < e
  · rw [show q * e + r + 1 = q * e + (r + 1) by omega, cl_split (by omega) h]
    repeat' split
    all_goals omega
  · rw [show q * e + r + 1 = (q + 1) * e + 0 by rw [Int.add_mul]; omega, cl_split (by omega) (by omega)]
    repeat' split
    all_goals omega

theorem rq_bounds {x : S52} (hx : okp x) {t : Int} (h0 : 0 ≤ t) (h1 : t ≤ 2147483648) : 0 ≤ rq x t ∧ rq x t ≤ 2251799813685248 := by
  obtain ⟨a, b, c, d, _⟩ := hx
  have e0 := cl_nonneg a h0
  have e1 := cl_le a h0
  unfold rq
  refine ⟨Int.mul_nonneg (by omega) e0, ?_⟩
  have : x.f1 * cl x.f0 t ≤ 1048576 * 2147483648 := Int.mul_le_mul d (by omega) e0 (by omega)
  omega

theorem requests_ok {x : S52} (hx : okp x) {t : Int} (h0 : 0 ≤ t) (h1 : t ≤ 2147483648) : demand_requests.f x.f0 x.f1 x.f2 x.f3 t = some (rq x t) := by
  have hb := rq_bounds hx h0 h1
  obtain ⟨a, b, c, d, _⟩ := hx
  unfold demand_requests.f
  have e0 := cl_nonneg a h0
  have e1 := cl_le a h0
  rw [if_neg (by omega), w64 (n := t + x.f0) (by omega) (by omega), w64 (n := t + x.f0 - 1) (by omega) (by omega), tdiv_pos (by omega)]
  show some (wrap64 (x.f1 * wrap64 (cl x.f0 t))) = _
  rw [w64 (n := cl x.f0 t) (by omega) (by omega)]
  unfold rq at *
  rw [w64 (by omega) (by omega)]
theorem ref_requests_ok {x : S52} (hx : okp x) {t : Int} (h0 : 0 ≤ t) (h1 : t ≤ 2147483648) : titheref20_requests.f x.f0 x.f1 x.f2 x.f3 t = some (rq x t) := by
  have hb := rq_bounds hx h0 h1
  obtain ⟨a, b, c, d, _⟩ := hx
  unfold titheref20_requests.f
  have e0 := cl_nonneg a h0
  have e1 := cl_le a h0
  rw [if_neg (by omega), w64 (n := t + x.f0) (by omega) (by omega), w64 (n := t + x.f0 - 1) (by omega) (by omega), tdiv_pos (by omega)]
  show some (wrap64 (wrap64 (cl x.f0 t) * x.f1)) = _
  rw [w64 (n := cl x.f0 t) (by omega) (by omega), Int.mul_comm]
  unfold rq at *
  rw [w64 (by omega) (by omega)]

theorem rd_get {l : List S52} {i : Nat} (h : i < l.length) : rd_T52 l (i : Int) = l[i] := by
  simp [rd_T52, List.getD, List.getElem?_eq_getElem h]

/-- the error of all work -/
def vcode (l : List S52) : Int := if l.length > 8 then 3 else if ∀ x ∈ l, okp x then 0 else 2
def verr (l : List S52) : Option Int := if vcode l = 0 then none else some (vcode l)
theorem vcode_ok {l : List S52} : vcode l = 0 ↔ l.length ≤ 8 ∧ ∀ x ∈ l, okp x := by
  unfold vcode
  by_cases h : l.length > 8
  · rw [if_pos h]; constructor
    · intro h; omega
    · rintro ⟨a, _⟩; omega
  · rw [if_neg h]
    by_cases h2 : ∀ x ∈ l, okp x
    · rw [if_pos h2]; exact ⟨fun _ => ⟨by omega, h2⟩, fun _ => rfl⟩
    · rw [if_neg h2]; exact ⟨fun h => by omega, fun h => absurd h.2 h2⟩

theorem Valid_evt (l : List S52) (hl : l.length ≤ 9223372036854775807) : Evt (fun k => demand_Valid.f k l) (verr l) := by
  unfold demand_Valid.f
  by_cases h8 : (l.length : Int) > 8
  · refine Evt.ifp h8 (Evt.pure fun _ => ?_)
    have hv : vcode l = 3 := by unfold vcode; rw [if_pos (by omega)]
    unfold verr; rw [hv]; rfl
  · refine Evt.ifn h8 ?_
    have key : ∀ (d i : Nat), i + d = l.length → (∀ x ∈ l.take i, okp x) → Evt (fun k => demand_Valid.l0 k l (l.length : Int) i) (verr l) := by
      intro d
      induction d with
      | zero =>
        intro i hi hall
        refine Evt.succ (Evt.pure fun k => ?_)
        simp only [demand_Valid.l0]
        rw [if_neg (by omega)]
        rw [List.take_of_length_le (by omega)] at hall
        unfold verr; rw [if_pos (vcode_ok.2 ⟨by omega, hall⟩)]
      | succ d ih =>
        intro i hi hall
        refine Evt.succ ?_
        simp only [demand_Valid.l0]
        rw [w1 i (by omega)]
        refine Evt.ifp (by omega) (Evt.ifp (by omega) (Evt.ifp (by omega) (Evt.call (a := decide (okp l[i])) ?_ ?_)))
        · rw [rd_get (by omega)]; exact valid_eq _
        · by_cases hx : okp l[i]
          · refine Evt.ifp (decide_eq_true hx) (ih (i + 1) (by omega) ?_)
            rw [List.take_succ_eq_append_getElem (by omega)]
            intro x hx'
            rcases List.mem_append.1 hx' with h | h
            · exact hall x h
            · rw [List.mem_singleton.1 h]; exact hx
          · refine Evt.ifn (by rw [decide_eq_false hx]; simp) (Evt.pure fun _ => ?_)
            have hv : vcode l = 2 := by
              unfold vcode; rw [if_neg (by omega), if_neg (fun h => hx (h _ (List.getElem_mem _)))]
            unfold verr; rw [hv]; rfl
    exact key l.length 0 (by omega) (by simp)

theorem refValid_evt (l : List S52) (hl : l.length ≤ 9223372036854775807) : Evt (fun k => titheref20_Valid.f k l) (vcode l) := by
  unfold titheref20_Valid.f
  by_cases h8 : (l.length : Int) > 8
  · refine Evt.ifp h8 (Evt.pure fun _ => ?_)
    unfold vcode; rw [if_pos (by omega)]
  · refine Evt.ifn h8 ?_
    have key : ∀ (d i : Nat), i + d = l.length → (∀ x ∈ l.take i, okp x) → Evt (fun k => titheref20_Valid.l0 k l i) (vcode l) := by
      intro d
      induction d with
      | zero =>
        intro i hi hall
        refine Evt.succ (Evt.pure fun k => ?_)
        simp only [titheref20_Valid.l0]
        rw [if_neg (by omega)]
        rw [List.take_of_length_le (by omega)] at hall
        rw [vcode_ok.2 ⟨by omega, hall⟩]
      | succ d ih =>
        intro i hi hall
        refine Evt.succ ?_
        simp only [titheref20_Valid.l0]
        rw [w1 i (by omega)]
        refine Evt.ifp (by omega) (Evt.ifp (by omega) (Evt.call (a := if okp l[i] then 0 else 2) ?_ ?_))
        · rw [rd_get (by omega)]; exact One_eq _
        · by_cases hx : okp l[i]
          · rw [if_pos hx]
            refine Evt.ifp rfl (ih (i + 1) (by omega) ?_)
            rw [List.take_succ_eq_append_getElem (by omega)]
            intro x hx'
            rcases List.mem_append.1 hx' with h | h
            · exact hall x h
            · rw [List.mem_singleton.1 h]; exact hx
          · rw [if_neg hx]
            refine Evt.ifn (by omega) (Evt.pure fun _ => ?_)
            unfold vcode; rw [if_neg (by omega), if_neg (fun h => hx (h _ (List.getElem_mem _)))]
    exact key l.length 0 (by omega) (by simp)

theorem nm_verr (l : List S52) : nm (verr l) = vcode l := by
  unfold nm verr
  by_cases h : vcode l = 0
  · rw [if_pos h, h]; rfl
  · rw [if_neg h]; rfl
theorem time_eq (t : Int) : titheref20_time.f t = some (decide (0 ≤ t ∧ t ≤ 1073741824)) := by
  unfold titheref20_time.f
  by_cases h : t ≥ 0
  · rw [if_pos h]
    by_cases h2 : t ≤ 1073741824
    · rw [decide_eq_true h2, decide_eq_true (⟨h, h2⟩)]
    · rw [decide_eq_false h2, decide_eq_false (by omega)]
  · rw [if_neg h, decide_eq_false (by omega)]
theorem is_eq (a b c : Int) : demand_is.f a b c = some (decide (b ≤ a ∧ a ≤ c)) := by
  unfold demand_is.f
  by_cases h : a ≥ b
  · rw [if_pos h]
    by_cases h2 : a ≤ c
    · rw [decide_eq_true h2, decide_eq_true (⟨h, h2⟩)]
    · rw [decide_eq_false h2, decide_eq_false (by omega)]
  · rw [if_neg h, decide_eq_false (by omega)]

/-- is k ahead of i? -/
def ab (l : List S52) (k i : Nat) : Bool := decide ((rd_T52 l (k : Int)).f3 < (rd_T52 l (i : Int)).f3 ∨ (rd_T52 l (k : Int)).f3 = (rd_T52 l (i : Int)).f3 ∧ k < i)
/-- the places, those ahead first -/
def ol (l : List S52) : List Nat := srt (fun i k : Nat => decide ((rd_T52 l (i : Int)).f3 < (rd_T52 l (k : Int)).f3)) (List.range l.length)
theorem ordl_eq (l : List S52) : ordl l = (ol l).map fun j : Nat => (j : Int) := rfl
theorem ol_perm (l : List S52) : (ol l).Perm (List.range l.length) := srt_perm _ _
theorem ol_length (l : List S52) : (ol l).length = l.length := by rw [(ol_perm l).length_eq, List.length_range]
theorem ol_mem {l : List S52} {i : Nat} : i ∈ ol l ↔ i < l.length := by rw [(ol_perm l).mem_iff, List.mem_range]
theorem ol_nodup (l : List S52) : (ol l).Nodup := (ol_perm l).nodup_iff.2 List.nodup_range
theorem ol_sorted (l : List S52) : (ol l).Pairwise (fun a b => ab l a b = true) := by
  refine List.Pairwise.imp ?_ (srt_sorted (fun i : Nat => (rd_T52 l (i : Int)).f3) (fun i : Nat => (i : Int)) (List.range l.length) ?_)
  · intro a b h
    simp only [ahd] at h
    unfold ab
    rw [decide_eq_true_eq]; omega
  · refine List.Pairwise.imp ?_ List.pairwise_lt_range
    intro a b h; omega
theorem ab_irr (l : List S52) (i : Nat) : ab l i i = false := by unfold ab; rw [decide_eq_false_iff_not]; omega
theorem ab_asymm {l : List S52} {a b : Nat} (h : ab l a b = true) : ab l b a = false := by
  unfold ab at *; rw [decide_eq_true_eq] at h; rw [decide_eq_false_iff_not]; omega
theorem ol_split {l : List S52} {i : Nat} (hi : i < l.length) : ∃ A B, ol l = A ++ i :: B ∧ (∀ k ∈ A, ab l k i = true) ∧ (∀ k ∈ B, ab l k i = false) ∧ i ∉ A := by
  obtain ⟨A, B, h⟩ := List.append_of_mem (ol_mem.2 hi)
  have hs := ol_sorted l
  have hn := ol_nodup l
  rw [h] at hs hn
  rw [List.pairwise_append] at hs
  rw [List.nodup_append] at hn
  refine ⟨A, B, h, fun k hk => hs.2.2 k hk i (List.mem_cons_self ..), fun k hk => ?_, fun hA => hn.2.2 i hA i (List.mem_cons_self ..) rfl⟩
  have := (List.pairwise_cons.1 hs.2.1).1 k hk
  exact ab_asymm this
theorem filter_split {l : List S52} {i : Nat} {A B : List Nat} (h : ol l = A ++ i :: B) (hA : ∀ k ∈ A, ab l k i = true) (hB : ∀ k ∈ B, ab l k i = false) : (ol l).filter (fun k => ab l k i) = A := by
  rw [h, List.filter_append, List.filter_cons_of_neg (by rw [ab_irr]; simp), List.filter_eq_self.2 (fun k hk => hA k hk), List.filter_eq_nil_iff.2 (fun k hk => by rw [hB k hk]; simp), List.append_nil]
theorem perm_sum {l1 l2 : List Nat} (h : l1.Perm l2) (f : Nat → Int) : (l1.map f).sum = (l2.map f).sum := by
  induction h with
  | nil => rfl
  | cons x _ ih => simp only [List.map_cons, List.sum_cons, ih]
  | swap x y l => simp only [List.map_cons, List.sum_cons]; omega
  | trans _ _ ih1 ih2 => exact ih1.trans ih2
theorem take_split {A B : List Nat} {i : Nat} (h : i ∉ A) : (A ++ i :: B).takeWhile (fun j => j != i) = A := by
  induction A with
  | nil => simp
  | cons a A ih =>
    rw [List.mem_cons, not_or] at h
    rw [List.cons_append, List.takeWhile_cons, if_pos (bne_iff_ne.2 (fun e => h.1 e.symm)), ih h.2]
/-- the entries that are ahead of one -/
def ahl (l : List S52) (i : Nat) : List S52 := ((ol l).takeWhile (fun j => j != i)).map fun j : Nat => rd_T52 l (j : Int)
/-- a sum over those ahead: along the order, or along the places -/
theorem ahl_sum {l : List S52} {i : Nat} (hi : i < l.length) (f : S52 → Int) : ((ahl l i).map f).sum = (((List.range l.length).filter fun k => ab l k i).map fun k : Nat => f (rd_T52 l (k : Int))).sum := by
  obtain ⟨A, B, h, hA, hB, hn⟩ := ol_split hi
  unfold ahl
  rw [h, take_split hn, List.map_map]
  have hp := ((ol_perm l).filter (fun k => ab l k i))
  rw [filter_split h hA hB] at hp
  exact perm_sum hp (fun k : Nat => f (rd_T52 l (k : Int)))

theorem rd_map (L : List Nat) {i : Nat} (h : i < L.length) : rd (L.map fun j : Nat => (j : Int)) (i : Int) = (L[i] : Int) := by
  simp [rd, List.getD, h]

theorem ahead_evt {l : List S52} (hl : l.length ≤ 8) (i : Nat) : Evt (fun k => demand_ahead.f k l (i : Int)) (ahl l i) := by
  unfold demand_ahead.f
  refine Evt.call (a := ordl l) (by unfold demand_order.f; rw [if_pos (by omega)]) ?_
  rw [ordl_eq]
  have hlen : ((ol l).map fun j : Nat => (j : Int)).length = (ol l).length := List.length_map _
  rw [hlen]
  have key : ∀ (d p : Nat) (acc : List S52), p + d = (ol l).length → acc.length ≤ p → Evt (fun k => demand_ahead.l0 k l (i : Int) acc ((ol l).map fun j : Nat => (j : Int)) ((ol l).length : Int) p) (acc ++ (((ol l).drop p).takeWhile (fun j => j != i)).map fun j : Nat => rd_T52 l (j : Int)) := by
    intro d
    induction d with
    | zero =>
      intro p acc hp _
      refine Evt.succ (Evt.pure fun k => ?_)
      simp only [demand_ahead.l0]
      rw [if_neg (by omega), List.drop_of_length_le (by omega)]; simp
    | succ d ih =>
      intro p acc hp ha
      have h8 := ol_length l
      refine Evt.succ ?_
      simp only [demand_ahead.l0]
      rw [w1 p (by omega), hlen, rd_map (ol l) (by omega)]
      have hm : (ol l)[p] < l.length := ol_mem.1 (List.getElem_mem _)
      refine Evt.ifp (by omega) (Evt.ifp (by omega) (Evt.ifp (by omega) ?_))
      rw [List.drop_eq_getElem_cons (show p < (ol l).length by omega), List.takeWhile_cons]
      by_cases he : (ol l)[p] = i
      · rw [if_neg (by simp [he])]
        refine Evt.ifp (by omega) (Evt.pure fun _ => by simp)
      · rw [if_pos (bne_iff_ne.2 he)]
        refine Evt.ifn (by omega) (Evt.ifp (by omega) (Evt.ifp (by omega) (Evt.ifp (by omega) ?_)))
        have := ih (p + 1) (acc ++ [rd_T52 l ((ol l)[p] : Int)]) (by omega) (by simp; omega)
        rw [List.map_cons, show acc ++ rd_T52 l ((ol l)[p] : Int) :: ((ol l).drop (p + 1) |>.takeWhile (fun j => j != i)).map (fun j : Nat => rd_T52 l (j : Int)) = (acc ++ [rd_T52 l ((ol l)[p] : Int)]) ++ ((ol l).drop (p + 1) |>.takeWhile (fun j => j != i)).map (fun j : Nat => rd_T52 l (j : Int)) by simp]
        exact this
  have := key (ol l).length 0 [] (by omega) (by simp)
  simpa [ahl] using this

theorem Ahead_ok {l : List S52} {k i : Nat} (hk : k < l.length) (hi : i < l.length) : titheref20_Ahead.f l (k : Int) (i : Int) = some (ab l k i) := by
  unfold titheref20_Ahead.f ab
  rw [if_pos (by omega), if_pos (by omega), if_pos (by omega), if_pos (by omega)]
  by_cases h1 : (rd_T52 l (k : Int)).f3 < (rd_T52 l (i : Int)).f3
  · rw [if_pos h1, decide_eq_true (.inl h1)]
  · rw [if_neg h1]
    by_cases h2 : (rd_T52 l (k : Int)).f3 = (rd_T52 l (i : Int)).f3
    · rw [if_pos h2]
      by_cases h3 : k < i
      · rw [decide_eq_true (by omega), decide_eq_true (.inr ⟨h2, h3⟩)]
      · rw [decide_eq_false (by omega), decide_eq_false (by omega)]
    · rw [if_neg h2, decide_eq_false (by omega)]


/-- what all entries of a list can ask for -/
def rs (L : List S52) (t : Int) : Int := (L.map fun x => rq x t).sum
theorem rs_cons (x : S52) (L : List S52) (t : Int) : rs (x :: L) t = rq x t + rs L t := by simp only [rs, List.map_cons, List.sum_cons]
theorem rs_nil (t : Int) : rs [] t = 0 := rfl
theorem rs_append (L M : List S52) (t : Int) : rs (L ++ M) t = rs L t + rs M t := by simp only [rs, List.map_append, List.sum_append]
theorem ahl_ok {l : List S52} (hok : ∀ x ∈ l, okp x) {i : Nat} : ∀ x ∈ ahl l i, okp x := by
  intro x hx
  obtain ⟨j, hj, rfl⟩ := List.mem_map.1 hx
  have hm := ol_mem.1 ((List.takeWhile_sublist _).subset hj)
  rw [rd_get hm]; exact hok _ (List.getElem_mem hm)
theorem ahl_len {l : List S52} {i : Nat} (hi : i < l.length) : (ahl l i).length < l.length := by
  obtain ⟨A, B, h, _, _, hn⟩ := ol_split hi
  have := ol_length l
  unfold ahl
  rw [h, take_split hn, List.length_map]
  rw [h, List.length_append, List.length_cons] at this; omega
theorem rs_bounds {L : List S52} (hok : ∀ x ∈ L, okp x) {t : Int} (h0 : 0 ≤ t) (h1 : t ≤ 2147483648) : 0 ≤ rs L t ∧ rs L t ≤ L.length * 2251799813685248 := by
  induction L with
  | nil => simp [rs_nil]
  | cons x L ih =>
    have hx := rq_bounds (hok x (List.mem_cons_self ..)) h0 h1
    have := ih (fun y hy => hok y (List.mem_cons_of_mem _ hy))
    rw [rs_cons, List.length_cons]; omega

theorem place_evt {l : List S52} (hl : l.length ≤ 9223372036854775807) (i : Int) : Evt (fun k => demand_place.f k l i) (if vcode l = 0 then (if 0 ≤ i ∧ i < l.length then none else some 1) else some (vcode l)) := by
  unfold demand_place.f
  refine Evt.bind (Valid_evt l hl) ?_
  by_cases hv : vcode l = 0
  · rw [if_pos hv]
    unfold verr
    rw [if_pos hv, w64 (n := (l.length : Int) - 1) (by omega) (by omega)]
    refine Evt.ifp rfl (Evt.call (is_eq _ _ _) ?_)
    by_cases hi : 0 ≤ i ∧ i < l.length
    · rw [if_pos hi, decide_eq_true (by omega)]; exact Evt.ifp rfl (Evt.pure fun _ => rfl)
    · rw [if_neg hi, decide_eq_false (by omega)]; exact Evt.ifn (by simp) (Evt.pure fun _ => rfl)
  · rw [if_neg hv]
    unfold verr
    rw [if_neg hv]
    exact Evt.ifn (by simp) (Evt.pure fun _ => rfl)

/-- the sum over the places, from one on -/
theorem ref_sum {l : List S52} (hok : ∀ x ∈ l, okp x) (h8 : l.length ≤ 8) {i : Nat} (hi : i < l.length) {t : Int} (h0 : 0 ≤ t) (h1 : t ≤ 2147483648) {β : Type} (g : Nat → Int → Int → Option β) (r : β)
    (step : ∀ k (acc : Int) (kk : Nat), kk < l.length → g (k + 1) acc kk = if (kk : Int) = (i : Int) then g k acc (wrap64 ((kk : Int) + 1)) else if ab l kk i = true then g k (wrap64 (acc + rq (rd_T52 l (kk : Int)) t)) (wrap64 ((kk : Int) + 1)) else g k acc (wrap64 ((kk : Int) + 1))) :
    ∀ (d kk : Nat) (acc : Int), kk + d = l.length → 0 ≤ acc → acc ≤ (kk + 1) * 2251799813685248 →
      Evt (fun k => g k (acc + ((((List.range l.length).drop kk).filter fun k => ab l k i).map fun k : Nat => rq (rd_T52 l (k : Int)) t).sum) (l.length : Int)) r → Evt (fun k => g k acc (kk : Int)) r := by
  intro d
  induction d with
  | zero =>
    intro kk acc hk a0 a1 h
    rw [List.drop_of_length_le (by rw [List.length_range]; omega)] at h
    simp only [List.filter_nil, List.map_nil, List.sum_nil, Int.add_zero] at h
    obtain rfl : kk = l.length := by omega
    exact h
  | succ d ih =>
    intro kk acc hk a0 a1 h
    have hx := rq_bounds (hok _ (List.getElem_mem (show kk < l.length by omega))) h0 h1
    rw [← rd_get (by omega)] at hx
    rw [List.drop_eq_getElem_cons (show kk < (List.range l.length).length by rw [List.length_range]; omega), List.getElem_range] at h
    refine Evt.succ (Evt.congr ?_ (fun k => step k acc kk (by omega)))
    rw [w1 kk (by omega)]
    by_cases he : kk = i
    · subst he
      rw [List.filter_cons_of_neg (by rw [ab_irr]; simp)] at h
      exact Evt.ifp rfl (ih (kk + 1) acc (by omega) a0 (by omega) h)
    · refine Evt.ifn (by omega) ?_
      cases hab : ab l kk i with
      | true =>
        rw [List.filter_cons_of_pos (p := fun k => ab l k i) (by exact hab), List.map_cons, List.sum_cons, ← Int.add_assoc] at h
        rw [w64 (n := acc + rq (rd_T52 l (kk : Int)) t) (by omega) (by omega)]
        exact Evt.ifp rfl (ih (kk + 1) _ (by omega) (by omega) (by omega) h)
      | false =>
        rw [List.filter_cons_of_neg (p := fun k => ab l k i) (by rw [hab]; simp)] at h
        exact Evt.ifn (by simp) (ih (kk + 1) acc (by omega) a0 (by omega) h)

theorem Level_evt {l : List S52} (hl : l.length ≤ 9223372036854775807) (i t : Int) : ∃ v e n, Evt (fun k => demand_Level.f k l i t) (v, e) ∧ Evt (fun k => titheref20_Level.f k l i t) (v, n) ∧ nm e = n := by
  have hp := place_evt hl i
  have hr := refValid_evt l hl
  by_cases hv : vcode l = 0
  · obtain ⟨h8, hok⟩ := vcode_ok.1 hv
    rw [if_pos hv] at hp
    rw [hv] at hr
    by_cases hi : 0 ≤ i ∧ i < l.length
    · rw [if_pos hi] at hp
      obtain ⟨j, rfl⟩ : ∃ j : Nat, i = j := ⟨i.toNat, by omega⟩
      have hj : j < l.length := by omega
      by_cases ht : 0 ≤ t ∧ t ≤ 1073741824
      · have hx := hok _ (List.getElem_mem hj)
        have hx' := hx
        obtain ⟨_, _, c1, c2, _⟩ := hx'
        rw [← rd_get hj] at c1 c2
        refine ⟨(rd_T52 l (j : Int)).f1 + rs (ahl l j) t, none, 0, ?_, ?_, rfl⟩
        · unfold demand_Level.f
          refine Evt.bind hp (Evt.ifp rfl (Evt.call (is_eq t 0 1073741824) ?_))
          rw [decide_eq_true ht]
          refine Evt.ifp rfl (Evt.ifp (by omega) (Evt.ifp (by omega) (Evt.bind (ahead_evt h8 j) ?_)))
          have hLok := ahl_ok hok (i := j)
          have hLl := ahl_len hj
          generalize ahl l j = L at *
          have key : ∀ (d p : Nat) (acc : Int), p + d = L.length → 0 ≤ acc → acc ≤ (p + 1) * 2251799813685248 → Evt (fun k => demand_Level.l0 k t acc L (L.length : Int) p) (acc + rs (L.drop p) t, none) := by
            intro d
            induction d with
            | zero =>
              intro p acc hp a0 a1
              refine Evt.succ (Evt.pure fun k => ?_)
              simp only [demand_Level.l0]
              rw [if_neg (by omega), List.drop_of_length_le (by omega), rs_nil, Int.add_zero]
            | succ d ih =>
              intro p acc hp a0 a1
              have hy := hLok _ (List.getElem_mem (show p < L.length by omega))
              have hb := rq_bounds hy ht.1 (by omega)
              refine Evt.succ ?_
              simp only [demand_Level.l0]
              rw [w1 p (by omega)]
              refine Evt.ifp (by omega) (Evt.ifp (by omega) (Evt.ifp (by omega) (Evt.call (a := rq L[p] t) ?_ ?_)))
              · rw [rd_get (by omega)]; exact requests_ok hy ht.1 (by omega)
              · rw [w64 (n := acc + rq L[p] t) (by omega) (by omega), List.drop_eq_getElem_cons (by omega), rs_cons, ← Int.add_assoc]
                exact ih (p + 1) _ (by omega) (by omega) (by omega)
          exact key L.length 0 _ (by omega) (by omega) (by omega)
        · unfold titheref20_Level.f
          refine Evt.bind hr (Evt.ifp rfl (Evt.ifn (by omega) (Evt.ifn (by omega) (Evt.call (time_eq t) ?_))))
          rw [decide_eq_true ht]
          refine Evt.ifp rfl (Evt.ifp (by omega) (Evt.ifp (by omega) ?_))
          refine ref_sum hok h8 hj ht.1 (by omega) (fun k acc kk => titheref20_Level.l0 k l (j : Int) t acc kk) _ ?_ l.length 0 _ (by omega) (by omega) (by omega) ?_
          · intro k acc kk hk
            simp only [titheref20_Level.l0]
            rw [if_pos (by omega), Ahead_ok hk hj, rd_get hk, ref_requests_ok (hok _ (List.getElem_mem hk)) ht.1 (by omega)]
            simp only [Option.bind_some]
            rw [if_pos (show (0 : Int) ≤ (kk : Int) by omega)]
          · rw [List.drop_zero, ← ahl_sum hj (fun x => rq x t)]
            refine Evt.succ (Evt.pure fun k => ?_)
            simp only [titheref20_Level.l0]
            rw [if_neg (by omega)]; rfl
      · refine ⟨0, some 1, 1, ?_, ?_, rfl⟩
        · unfold demand_Level.f
          refine Evt.bind hp (Evt.ifp rfl (Evt.call (is_eq t 0 1073741824) ?_))
          rw [decide_eq_false ht]
          exact Evt.ifn (by simp) (Evt.pure fun _ => rfl)
        · unfold titheref20_Level.f
          refine Evt.bind hr (Evt.ifp rfl (Evt.ifn (by omega) (Evt.ifn (by omega) (Evt.call (time_eq t) ?_))))
          rw [decide_eq_false ht]
          exact Evt.ifn (by simp) (Evt.pure fun _ => rfl)
    · rw [if_neg hi] at hp
      refine ⟨0, some 1, 1, ?_, ?_, rfl⟩
      · unfold demand_Level.f
        exact Evt.bind hp (Evt.ifn (by simp) (Evt.pure fun _ => rfl))
      · unfold titheref20_Level.f
        refine Evt.bind hr (Evt.ifp rfl ?_)
        by_cases h0 : i < 0
        · exact Evt.ifp h0 (Evt.pure fun _ => rfl)
        · exact Evt.ifn h0 (Evt.ifp (by omega) (Evt.pure fun _ => rfl))
  · rw [if_neg hv] at hp
    refine ⟨0, some (vcode l), vcode l, ?_, ?_, rfl⟩
    · unfold demand_Level.f
      exact Evt.bind hp (Evt.ifn (by simp) (Evt.pure fun _ => rfl))
    · unfold titheref20_Level.f
      exact Evt.bind hr (Evt.ifn hv (Evt.pure fun _ => rfl))


theorem mx_max (a b : Int) : mx a b = max a b := by unfold mx; omega

theorem valid_ok {q p : Int} (hq : 1 ≤ q) (hqp : q ≤ p) (hp : p ≤ 1048576) : fixed_Valid.f q p = some none := by
  unfold fixed_Valid.f; rw [if_neg (by omega), if_neg (by omega), if_neg (by omega)]

theorem least_ok {q p t : Int} (hq : 0 ≤ q) (hqp : q ≤ p) (hp0 : 1 ≤ p) (hp : p ≤ 1048576) (h0 : 0 ≤ t) (h1 : t ≤ 1073741824) : supply_least.f q p t = some (lst q p t) := by
  unfold supply_least.f lst fsup
  have e1 : wrap64 (p - q) = p - q := w64 (by omega) (by omega)
  rw [e1]
  by_cases h : t ≤ p - q
  · rw [if_pos h, if_pos h]
  · rw [if_neg h, if_neg (by omega), if_neg h]
    have e2 : wrap64 (t - (p - q)) = t - (p - q) := w64 (by omega) (by omega)
    rw [e2, tdiv_pos (by omega)]
    generalize hu : t - (p - q) = u
    have hk0 : 0 ≤ u / p := Int.ediv_nonneg (by omega) (by omega)
    have hm := Int.mul_ediv_add_emod u p
    have hr0 := Int.emod_nonneg u (b := p) (by omega)
    have hr1 := Int.emod_lt_of_pos u (b := p) (by omega)
    rw [Int.mul_comm] at hm
    have hkp : 0 ≤ u / p * p := Int.mul_nonneg hk0 (by omega)
    have hkq : 0 ≤ u / p * q := Int.mul_nonneg hk0 (by omega)
    have hkqp : u / p * q ≤ u / p * p := Int.mul_le_mul_of_nonneg_left hqp hk0
    have hku : u / p ≤ u / p * p := by have := Int.mul_le_mul_of_nonneg_left hp0 hk0; omega
    have e3 : wrap64 (u / p) = u / p := w64 (by omega) (by omega)
    have e4 : wrap64 (u / p * q) = u / p * q := w64 (by omega) (by omega)
    have e5 : wrap64 (u / p * p) = u / p * p := w64 (by omega) (by omega)
    rw [e3, e4, e5]
    have e6 : wrap64 (u - u / p * p) = u - u / p * p := w64 (by omega) (by omega)
    rw [e6]
    have e7 : wrap64 (u - u / p * p - (p - q)) = u - u / p * p - (p - q) := w64 (by omega) (by omega)
    rw [e7, mx_max, w64 (by omega) (by omega)]

theorem wait_ok {q p n : Int} (hq : 1 ≤ q) (hqp : q ≤ p) (hp : p ≤ 1048576) (h0 : 0 ≤ n) (h1 : n ≤ 1073741824) :
    supply_wait.f q p n = if wt q p n ≤ 1073741824 then some (wt q p n, none) else some (0, some 60) := by
  unfold supply_wait.f
  by_cases hn : n = 0
  · subst hn; rw [if_pos rfl, wt_zero, if_pos (by omega)]
  · rw [if_neg hn, if_neg (by omega)]
    have e0 : wrap64 (p - q) = p - q := w64 (by omega) (by omega)
    have e1 : wrap64 (n - 1) = n - 1 := w64 (by omega) (by omega)
    rw [e0, e1, tdiv_pos (by omega)]
    have hw : wt q p n = 2 * (p - q) + (n - 1) / q * p + n - (n - 1) / q * q := by unfold wt; rw [if_neg hn]
    have hk0 : 0 ≤ (n - 1) / q := Int.ediv_nonneg (by omega) (by omega)
    have hk1 : (n - 1) / q ≤ n - 1 := Int.ediv_le_self _ (by omega)
    generalize (n - 1) / q = k at hw hk0 hk1 ⊢
    have b1 : 0 ≤ k * p := Int.mul_nonneg hk0 (by omega)
    have b2 : k * p ≤ 1073741824 * 1048576 := Int.mul_le_mul (by omega) hp (by omega) (by omega)
    have b3 : 0 ≤ k * q := Int.mul_nonneg hk0 (by omega)
    have b4 : k * q ≤ 1073741824 * 1048576 := Int.mul_le_mul (by omega) (by omega) (by omega) (by omega)
    have e2 : wrap64 (2 * (p - q)) = 2 * (p - q) := w64 (by omega) (by omega)
    have e3 : wrap64 k = k := w64 (by omega) (by omega)
    rw [e2, e3]
    generalize k * p = kp at *
    generalize k * q = kq at *
    have e4 : wrap64 kp = kp := w64 (by omega) (by omega)
    have e5 : wrap64 kq = kq := w64 (by omega) (by omega)
    rw [e4, e5]
    have e6 : wrap64 (2 * (p - q) + kp) = 2 * (p - q) + kp := w64 (by omega) (by omega)
    rw [e6]
    have e7 : wrap64 (2 * (p - q) + kp + n) = 2 * (p - q) + kp + n := w64 (by omega) (by omega)
    rw [e7]
    have e8 : wrap64 (2 * (p - q) + kp + n - kq) = 2 * (p - q) + kp + n - kq := w64 (by omega) (by omega)
    rw [e8, hw]

/-- a reservation as a pair -/
def pr (x : S25) : Int × Int := (x.f0, x.f1)
theorem bad_iff (x : S25) : supply_row.bad x = false ↔ okr (pr x) := by
  unfold supply_row.bad okr pr
  rw [decide_eq_false_iff_not]
  constructor
  · intro h; exact ⟨by omega, by omega, by omega⟩
  · rintro ⟨a, b, c⟩; simp only [] at a b c; omega

theorem row_ok {l : List S25} {a : Int} (hl : l.length ≤ 8) (h : ∀ x ∈ l, okr (pr x)) (h0 : 0 ≤ a) (h1 : a ≤ 1073741824) : supply_row.f l a = some none := by
  unfold supply_row.f
  rw [if_pos (by omega), if_neg (by omega), if_neg, if_neg (by omega)]
  rw [Bool.not_eq_true, List.any_eq_false]
  intro x hx; rw [(bad_iff x).2 (h x hx)]; simp
theorem row_cases {l : List S25} {a : Int} (hl : l.length ≤ 140737488351232) :
    (∃ e, supply_row.f l a = some (some e)) ∨ (supply_row.f l a = some none ∧ l.length ≤ 8 ∧ (∀ x ∈ l, okr (pr x)) ∧ 0 ≤ a ∧ a ≤ 1073741824) := by
  unfold supply_row.f
  rw [if_pos hl]
  by_cases h1 : a < 0 ∨ a > 1073741824
  · rw [if_pos h1]; exact .inl ⟨_, rfl⟩
  · rw [if_neg h1]
    by_cases h2 : l.any supply_row.bad = true
    · rw [if_pos h2]; exact .inl ⟨_, rfl⟩
    · rw [if_neg h2]
      by_cases h3 : (l.length : Int) > 8
      · rw [if_pos h3]; exact .inl ⟨_, rfl⟩
      · rw [if_neg h3]
        refine .inr ⟨rfl, by omega, fun x hx => ?_, by omega, by omega⟩
        rw [Bool.not_eq_true, List.any_eq_false] at h2
        exact (bad_iff x).1 (by simpa using h2 x hx)

theorem rd_get64 {l : List S25} {i : Nat} (h : i < l.length) : rd_T25 l (i : Int) = l[i] := by
  simp [rd_T25, List.getD, List.getElem?_eq_getElem h]

theorem Down_evt {l : List S25} {t : Int} (hl : l.length ≤ 8) (h : ∀ x ∈ l, okr (pr x)) (h0 : 0 ≤ t) (h1 : t ≤ 1073741824) :
    Evt (fun k => supply_Down.f k l t) (dn (l.map pr) t, none) := by
  have key : ∀ (d i : Nat) (u : Int), i + d = l.length → 0 ≤ u → u ≤ 1073741824 → Evt (fun k => supply_Down.l0 k u l (l.length : Int) i) (dn ((l.drop i).map pr) u, none) := by
    intro d
    induction d with
    | zero =>
      intro i u hi hu0 hu1
      refine Evt.succ (Evt.pure fun k => ?_)
      simp only [supply_Down.l0]
      rw [if_neg (by omega), List.drop_of_length_le (by omega)]; rfl
    | succ d ih =>
      intro i u hi hu0 hu1
      refine Evt.succ ?_
      simp only [supply_Down.l0]
      rw [w1 i (by omega)]
      have hx := h _ (List.getElem_mem (show i < l.length by omega))
      have hx' := hx
      obtain ⟨a, b, c⟩ := hx'
      simp only [pr] at a b c
      have q0 := hx.lst_nonneg u
      have q1 := hx.lst_le hu0
      simp only [pr] at q0 q1
      refine Evt.ifp (by omega) (Evt.ifp (by omega) (Evt.ifp (by omega) (Evt.call (a := lst l[i].f0 l[i].f1 u) ?_ ?_)))
      · rw [rd_get64 (by omega)]; exact least_ok (by omega) b (by omega) c hu0 hu1
      · have := ih (i + 1) (lst l[i].f0 l[i].f1 u) (by omega) q0 (by omega)
        rw [List.drop_eq_getElem_cons (show i < l.length by omega)]
        exact this
  have := key l.length 0 t (by omega) h0 h1
  refine Evt.congr (g' := fun k => supply_Down.l0 k t l (l.length : Int) 0) (by simpa using this) ?_
  intro k
  unfold supply_Down.f
  rw [row_ok hl h h0 h1]; rfl

theorem Thr_l0 : ∀ (R : List S25) (n : Int), (∀ x ∈ R, okr (pr x)) → 0 ≤ n → n ≤ 1073741824 →
    (∃ e, supply_Through.l0 R n = some (0, some e)) ∨ (supply_Through.l0 R n = some ((R.map pr).foldl (fun n x => wt x.1 x.2 n) n, none) ∧ (R.map pr).foldl (fun n x => wt x.1 x.2 n) n ≤ 1073741824)
  | [], n, _, _, h1 => .inr ⟨rfl, h1⟩
  | x :: r, n, h, h0, h1 => by
    obtain ⟨a, b, c⟩ := h x (List.mem_cons_self ..)
    simp only [pr] at a b c
    have hw := (h x (List.mem_cons_self ..)).wt_ge h0
    simp only [pr] at hw
    simp only [supply_Through.l0]
    rw [wait_ok a b c h0 h1]
    by_cases hm : wt x.f0 x.f1 n ≤ 1073741824
    · rw [if_pos hm]
      simp only [Option.bind_some, Option.isNone_none, if_true, List.map_cons, List.foldl]
      exact Thr_l0 r _ (fun y hy => h y (List.mem_cons_of_mem _ hy)) (by omega) hm
    · rw [if_neg hm]
      exact .inl ⟨60, rfl⟩

theorem Through_cases {l : List S25} {n : Int} (hl : l.length ≤ 140737488351232) :
    (∃ e, supply_Through.f l n = some (0, some e)) ∨ (supply_Through.f l n = some (thr (l.map pr) n, none) ∧ thr (l.map pr) n ≤ 1073741824 ∧ l.length ≤ 8 ∧ (∀ x ∈ l, okr (pr x)) ∧ 0 ≤ n ∧ n ≤ 1073741824) := by
  unfold supply_Through.f
  rcases row_cases (a := n) hl with ⟨e, he⟩ | ⟨he, h8, hok, h0, h1⟩
  · rw [he]; exact .inl ⟨e, rfl⟩
  · rw [he]
    simp only [Option.bind_some, Option.isNone_none, if_true]
    rcases Thr_l0 l.reverse n (fun x hx => hok x (List.mem_reverse.1 hx)) h0 h1 with ⟨e, h⟩ | ⟨h, hm⟩
    · exact .inl ⟨e, h⟩
    · rw [List.map_reverse, thr_foldl] at h hm
      exact .inr ⟨h, hm, h8, hok, h0, h1⟩


instance (x : Int × Int) : Decidable (okr x) := by unfold okr; infer_instance
/-- the error of a row of reservations and a number -/
def rcode (l : List S25) (t : Int) : Int := if t < 0 ∨ t > 1073741824 then 1 else if ∀ x ∈ l, okr (pr x) then (if l.length > 8 then 3 else 0) else 2
theorem row_code {l : List S25} (hl : l.length ≤ 140737488351232) (t : Int) : supply_row.f l t = some (if rcode l t = 0 then none else some (rcode l t)) := by
  unfold supply_row.f rcode
  rw [if_pos hl]
  by_cases h1 : t < 0 ∨ t > 1073741824
  · rw [if_pos h1, if_pos h1]; rfl
  · rw [if_neg h1, if_neg h1]
    by_cases h2 : l.any supply_row.bad = true
    · rw [if_pos h2]
      have : ¬ ∀ x ∈ l, okr (pr x) := by
        obtain ⟨x, hx, hb⟩ := List.any_eq_true.1 h2
        intro h
        rw [(bad_iff x).2 (h x hx)] at hb; simp at hb
      rw [if_neg this]; rfl
    · rw [if_neg h2]
      have : ∀ x ∈ l, okr (pr x) := by
        rw [Bool.not_eq_true, List.any_eq_false] at h2
        intro x hx
        exact (bad_iff x).1 (by simpa using h2 x hx)
      rw [if_pos this]
      by_cases h3 : (l.length : Int) > 8
      · rw [if_pos h3, if_pos (show l.length > 8 by omega)]; rfl
      · rw [if_neg h3, if_neg (show ¬ l.length > 8 by omega)]; rfl
theorem rcode_ok {l : List S25} {t : Int} : rcode l t = 0 ↔ (l.length ≤ 8 ∧ (∀ x ∈ l, okr (pr x)) ∧ 0 ≤ t ∧ t ≤ 1073741824) := by
  unfold rcode
  by_cases h1 : t < 0 ∨ t > 1073741824
  · rw [if_pos h1]; constructor
    · intro h; omega
    · rintro ⟨_, _, a, b⟩; omega
  · rw [if_neg h1]
    by_cases h2 : ∀ x ∈ l, okr (pr x)
    · rw [if_pos h2]
      by_cases h3 : l.length > 8
      · rw [if_pos h3]; constructor
        · intro h; omega
        · rintro ⟨a, _⟩; omega
      · rw [if_neg h3]; exact ⟨fun _ => ⟨by omega, h2, by omega, by omega⟩, fun _ => rfl⟩
    · rw [if_neg h2]; constructor
      · intro h; omega
      · rintro ⟨_, h, _⟩; exact absurd h h2
theorem ref_valid (x : S25) : titheref01_Valid.f x.f0 x.f1 = some (if okr (pr x) then 0 else 2) := by
  unfold titheref01_Valid.f
  by_cases h : okr (pr x)
  · have h' := h
    unfold okr pr at h'
    simp only [] at h'
    rw [if_pos h, if_neg (by omega), if_neg (by omega), if_neg (by omega)]
  · have h' := h
    unfold okr pr at h'
    simp only [] at h'
    rw [if_neg h]
    repeat' (first | rfl | split | (exfalso; apply h'; omega))
theorem time21_eq (t : Int) : titheref21_time.f t = some (decide (¬ (t < 0 ∨ t > 1073741824))) := by
  unfold titheref21_time.f
  by_cases h : t ≥ 0
  · rw [if_pos h]
    by_cases h2 : t ≤ 1073741824
    · rw [decide_eq_true h2, decide_eq_true (by omega)]
    · rw [decide_eq_false h2, decide_eq_false (by omega)]
  · rw [if_neg h, decide_eq_false (by omega)]
theorem refrow_evt {l : List S25} (hl : l.length ≤ 140737488351232) (t : Int) : Evt (fun k => titheref21_row.f k l t) (rcode l t) := by
  unfold titheref21_row.f rcode
  refine Evt.call (time21_eq t) ?_
  by_cases h1 : t < 0 ∨ t > 1073741824
  · rw [if_pos h1, decide_eq_false (by omega)]; exact Evt.ifn (by simp) (Evt.pure fun _ => rfl)
  · rw [if_neg h1, decide_eq_true h1]
    refine Evt.ifp rfl ?_
    have key : ∀ (d i : Nat), i + d = l.length → (∀ x ∈ l.take i, okr (pr x)) → Evt (fun k => titheref21_row.l0 k l i) (if ∀ x ∈ l, okr (pr x) then (if l.length > 8 then 3 else 0) else 2) := by
      intro d
      induction d with
      | zero =>
        intro i hi hall
        refine Evt.succ (Evt.pure fun k => ?_)
        simp only [titheref21_row.l0]
        rw [List.take_of_length_le (by omega)] at hall
        rw [if_neg (by omega), if_pos hall]
        by_cases h3 : l.length > 8
        · rw [if_pos (by omega), if_pos h3]
        · rw [if_neg (by omega), if_neg h3]
      | succ d ih =>
        intro i hi hall
        refine Evt.succ ?_
        simp only [titheref21_row.l0]
        rw [w1 i (by omega)]
        refine Evt.ifp (by omega) (Evt.ifp (by omega) (Evt.call (ref_valid _) ?_))
        rw [rd_get64 (by omega)]
        by_cases hx : okr (pr l[i])
        · rw [if_pos hx]
          refine Evt.ifp rfl (ih (i + 1) (by omega) ?_)
          rw [List.take_succ_eq_append_getElem (by omega)]
          intro x hx'
          rcases List.mem_append.1 hx' with h | h
          · exact hall x h
          · rw [List.mem_singleton.1 h]; exact hx
        · rw [if_neg hx]
          refine Evt.ifn (by omega) (Evt.pure fun _ => ?_)
          rw [if_neg (fun h => hx (h _ (List.getElem_mem _)))]
    exact key l.length 0 (by omega) (by simp)
theorem bound_eq (a b c : Int) : titheref21_bound.f a b c = supply_least.f a b c := by
  unfold titheref21_bound.f supply_least.f
  have hm : ∀ x y : Int, mx x y = mx y x := fun x y => by rw [mx_max, mx_max, Int.max_comm]
  rw [hm _ 0]

theorem Down_rel {l : List S25} (hl : l.length ≤ 140737488351232) (t : Int) : ∃ x e n, Evt (fun k => supply_Down.f k l t) (x, e) ∧ Evt (fun k => titheref21_Down.f k l t) (x, n) ∧ nm e = n := by
  have hr := refrow_evt hl t
  by_cases hc : rcode l t = 0
  · obtain ⟨h8, hok, h0, h1⟩ := rcode_ok.1 hc
    refine ⟨_, _, 0, Down_evt h8 hok h0 h1, ?_, rfl⟩
    unfold titheref21_Down.f
    rw [hc] at hr
    refine Evt.bind hr (Evt.ifp rfl ?_)
    have key : ∀ (d i : Nat) (u : Int), i + d = l.length → 0 ≤ u → u ≤ 1073741824 → Evt (fun k => titheref21_Down.l0 k l u i) (dn ((l.drop i).map pr) u, 0) := by
      intro d
      induction d with
      | zero =>
        intro i u hi hu0 hu1
        refine Evt.succ (Evt.pure fun k => ?_)
        simp only [titheref21_Down.l0]
        rw [if_neg (by omega), List.drop_of_length_le (by omega)]; rfl
      | succ d ih =>
        intro i u hi hu0 hu1
        refine Evt.succ ?_
        simp only [titheref21_Down.l0]
        rw [w1 i (by omega)]
        have hx := hok _ (List.getElem_mem (show i < l.length by omega))
        have hx' := hx
        obtain ⟨a, b, c⟩ := hx'
        simp only [pr] at a b c
        have q0 := hx.lst_nonneg u
        have q1 := hx.lst_le hu0
        simp only [pr] at q0 q1
        refine Evt.ifp (by omega) (Evt.ifp (by omega) (Evt.call (a := lst l[i].f0 l[i].f1 u) ?_ ?_))
        · rw [rd_get64 (by omega), bound_eq]; exact least_ok (by omega) b (by omega) c hu0 hu1
        · have := ih (i + 1) (lst l[i].f0 l[i].f1 u) (by omega) q0 (by omega)
          rw [List.drop_eq_getElem_cons (show i < l.length by omega)]
          exact this
    have := key l.length 0 t (by omega) h0 h1
    simpa using this
  · refine ⟨0, some (rcode l t), rcode l t, ?_, ?_, rfl⟩
    · unfold supply_Down.f
      refine Evt.call (row_code hl t) ?_
      rw [if_neg hc]
      exact Evt.ifn (by simp) (Evt.pure fun _ => rfl)
    · unfold titheref21_Down.f
      exact Evt.bind hr (Evt.ifn hc (Evt.pure fun _ => rfl))

theorem refWait_ok {q p n : Int} (hq : 1 ≤ q) (hqp : q ≤ p) (hp : p ≤ 1048576) (h0 : 0 ≤ n) (h1 : n ≤ 1073741824) :
    titheref21_Wait.f q p n = if wt q p n ≤ 1073741824 then some (wt q p n, 0) else some (0, 60) := by
  have hv := ref_valid ⟨q, p⟩
  rw [if_pos (show okr (pr ⟨q, p⟩) from ⟨hq, hqp, hp⟩)] at hv
  have hw := wait_ok hq hqp hp h0 h1
  unfold supply_wait.f at hw
  unfold titheref21_Wait.f titheref21_asked.f
  rw [time21_eq, decide_eq_true (by omega), hv]
  simp only [Option.bind_some, if_true]
  by_cases hn : n = 0
  · rw [if_pos hn]; subst hn; rw [wt_zero, if_pos (by omega)]
  · rw [if_neg hn, if_neg (by omega)] at hw
    rw [if_neg hn, if_neg (by omega)]
    generalize wrap64 (wrap64 (wrap64 (wrap64 (2 * wrap64 (p - q)) + wrap64 (wrap64 (Int.tdiv (wrap64 (n - 1)) q) * p)) + n) - wrap64 (wrap64 (Int.tdiv (wrap64 (n - 1)) q) * q)) = z at hw ⊢
    by_cases hz : z ≤ 1073741824
    · rw [if_pos hz] at hw
      rw [if_neg (by omega)]
      by_cases hm : wt q p n ≤ 1073741824
      · rw [if_pos hm] at hw ⊢
        simp only [Option.some.injEq, Prod.mk.injEq, and_true] at hw
        rw [hw]
      · rw [if_neg hm] at hw
        simp at hw
    · rw [if_neg hz] at hw
      rw [if_pos (by omega)]
      by_cases hm : wt q p n ≤ 1073741824
      · rw [if_pos hm] at hw
        simp at hw
      · rw [if_neg hm]
theorem Through_rel {l : List S25} (hl : l.length ≤ 140737488351232) (n : Int) : ∃ x e m, supply_Through.f l n = some (x, e) ∧ Evt (fun k => titheref21_Through.f k l n) (x, m) ∧ nm e = m ∧ (e = none ↔ m = 0) ∧ x ≤ 1073741824 := by
  have hr := refrow_evt hl n
  by_cases hc : rcode l n = 0
  · obtain ⟨h8, hok, h0, h1⟩ := rcode_ok.1 hc
    have key : ∀ (i : Nat), i ≤ l.length → ∀ n : Int, 0 ≤ n → n ≤ 1073741824 → ∃ x e m, supply_Through.l0 (l.take i).reverse n = some (x, e) ∧ Evt (fun k => titheref21_Through.l0 k l n ((i : Int) - 1)) (x, m) ∧ nm e = m ∧ (e = none ↔ m = 0) ∧ x ≤ 1073741824 := by
      intro i
      induction i with
      | zero =>
        intro _ n n0 n1
        refine ⟨n, none, 0, rfl, Evt.succ (Evt.pure fun k => ?_), rfl, by simp, n1⟩
        simp only [titheref21_Through.l0]
        rw [if_neg (by omega)]
      | succ i ih =>
        intro hi n n0 n1
        have hx := hok _ (List.getElem_mem (show i < l.length by omega))
        have hw := hx.wt_ge n0
        obtain ⟨a, b, c⟩ := hx
        simp only [pr] at a b c hw
        rw [List.take_succ_eq_append_getElem (by omega), List.reverse_append, List.reverse_singleton, List.singleton_append]
        simp only [supply_Through.l0]
        rw [wait_ok a b c n0 n1]
        have step : ∀ r, Evt (fun k => (titheref21_Wait.f l[i].f0 l[i].f1 n).bind fun bt => if bt.2 = 0 then titheref21_Through.l0 k l bt.1 (wrap64 ((i : Int) - 1)) else some (0, bt.2)) r → Evt (fun k => titheref21_Through.l0 k l n (((i + 1 : Nat) : Int) - 1)) r := by
          intro r h
          refine Evt.succ ?_
          simp only [titheref21_Through.l0]
          rw [show ((i + 1 : Nat) : Int) - 1 = (i : Int) by omega, rd_get64 (by omega)]
          exact Evt.ifp (by omega) (Evt.ifp (by omega) (Evt.ifp (by omega) h))
        by_cases hm : wt l[i].f0 l[i].f1 n ≤ 1073741824
        · rw [if_pos hm]
          obtain ⟨x, e, m, q1, q2, q3, q4, q5⟩ := ih (by omega) (wt l[i].f0 l[i].f1 n) (by omega) hm
          refine ⟨x, e, m, ?_, step _ ?_, q3, q4, q5⟩
          · simp only [Option.bind_some, Option.isNone_none, if_true]; exact q1
          · rw [refWait_ok a b c n0 n1, if_pos hm, w64 (n := (i : Int) - 1) (by omega) (by omega)]
            exact Evt.call rfl (Evt.ifp rfl q2)
        · rw [if_neg hm]
          refine ⟨0, some 60, 60, rfl, step _ ?_, rfl, by simp, by omega⟩
          rw [refWait_ok a b c n0 n1, if_neg hm]
          exact Evt.call rfl (Evt.ifn (by simp) (Evt.pure fun _ => rfl))
    obtain ⟨x, e, m, q1, q2, q3, q4, q5⟩ := key l.length (Nat.le_refl _) n h0 h1
    rw [List.take_of_length_le (Nat.le_refl _)] at q1
    refine ⟨x, e, m, ?_, ?_, q3, q4, q5⟩
    · unfold supply_Through.f
      rw [row_code hl, if_pos hc]; exact q1
    · unfold titheref21_Through.f
      rw [hc] at hr
      rw [w64 (n := (l.length : Int) - 1) (by omega) (by omega)]
      exact Evt.bind hr (Evt.ifp rfl q2)
  · refine ⟨0, some (rcode l n), rcode l n, ?_, ?_, rfl, ⟨fun h => by simp at h, fun h => absurd h hc⟩, by omega⟩
    · unfold supply_Through.f
      rw [row_code hl, if_neg hc]; rfl
    · unfold titheref21_Through.f
      exact Evt.bind hr (Evt.ifn hc (Evt.pure fun _ => rfl))

/-- the error of work and a row of reservations -/
def fc (l : List S52) (m : List S25) : Int := if vcode l = 0 then rcode m 0 else vcode l
theorem check_evt {l : List S52} {m : List S25} (hl : l.length ≤ 9223372036854775807) (hm : m.length ≤ 140737488351232) : Evt (fun k => response_check.f k l m) (if fc l m = 0 then none else some (fc l m)) := by
  unfold response_check.f fc
  refine Evt.bind (Valid_evt l hl) ?_
  by_cases hv : vcode l = 0
  · rw [if_pos hv]
    unfold verr
    rw [if_pos hv]
    refine Evt.ifp rfl ?_
    by_cases hc : rcode m 0 = 0
    · obtain ⟨h8, hok, h0, h1⟩ := rcode_ok.1 hc
      rw [if_pos hc]
      exact Evt.bind (Down_evt h8 hok h0 h1) (Evt.pure fun _ => rfl)
    · rw [if_neg hc]
      refine Evt.bind (a := (0, some (rcode m 0))) ?_ (Evt.pure fun _ => rfl)
      unfold supply_Down.f
      refine Evt.call (row_code hm 0) ?_
      rw [if_neg hc]
      exact Evt.ifn (by simp) (Evt.pure fun _ => rfl)
  · rw [if_neg hv, if_neg hv]
    unfold verr
    rw [if_neg hv]
    exact Evt.ifn (by simp) (Evt.pure fun _ => rfl)
theorem fault_evt {l : List S52} {m : List S25} (hl : l.length ≤ 9223372036854775807) (hm : m.length ≤ 140737488351232) : Evt (fun k => titheref22_fault.f k l m) (fc l m) := by
  unfold titheref22_fault.f fc
  refine Evt.bind (refValid_evt l hl) ?_
  by_cases hv : vcode l = 0
  · rw [if_pos hv]
    refine Evt.ifp hv ?_
    obtain ⟨x, e, n, q1, q2, q3⟩ := Down_rel hm 0
    have hn : n = rcode m 0 := by
      have hr := refrow_evt hm 0
      by_cases hc : rcode m 0 = 0
      · obtain ⟨h8, hok, h0, h1⟩ := rcode_ok.1 hc
        have := Evt.inj q1 (Down_evt h8 hok h0 h1)
        simp only [Prod.mk.injEq] at this
        rw [this.2] at q3
        rw [hc]; exact q3.symm
      · have h2 : Evt (fun k => titheref21_Down.f k m 0) (0, rcode m 0) := by
          unfold titheref21_Down.f
          exact Evt.bind hr (Evt.ifn hc (Evt.pure fun _ => rfl))
        have := Evt.inj q2 h2
        simp only [Prod.mk.injEq] at this
        exact this.2
    rw [← hn]
    exact Evt.bind q2 (Evt.pure fun _ => rfl)
  · rw [if_neg hv]
    exact Evt.ifn hv (Evt.pure fun _ => rfl)

theorem time_rel {l : List S52} {m : List S25} (hl : l.length ≤ 8) (hm : m.length ≤ 140737488351232) (hok : ∀ x ∈ l, okp x) {j : Nat} (hj : j < l.length) :
    ∃ v b, Evt (fun k => response_time.f k l (j : Int) m) (v, b) ∧ Evt (fun k => titheref22_time.f k l (j : Int) m) v ∧ (b = true → 1 ≤ v) ∧ (b = false → v = 0) := by
  have hx := hok _ (List.getElem_mem hj)
  rw [← rd_get hj] at hx
  obtain ⟨a1, a2, _, _, a3, a4, _⟩ := hx
  have main : ∀ (d : Nat) (t : Int), t + d = (rd_T52 l (j : Int)).f2 + 1 → 1 ≤ t →
      ∃ v b, Evt (fun k => response_time.l0 k l (j : Int) m t) (v, b) ∧ Evt (fun k => titheref22_time.l0 k l (j : Int) m t) v ∧ (b = true → 1 ≤ v) ∧ (b = false → v = 0) := by
    intro d
    induction d using Nat.strongRecOn with
    | _ d ih =>
      intro t hd t0
      by_cases hgt : t > (rd_T52 l (j : Int)).f2
      · refine ⟨0, false, Evt.succ ?_, Evt.succ ?_, by simp, fun _ => rfl⟩
        · simp only [response_time.l0]
          exact Evt.ifp (by omega) (Evt.ifp (by omega) (Evt.ifp hgt (Evt.pure fun _ => rfl)))
        · simp only [titheref22_time.l0]
          exact Evt.ifp (by omega) (Evt.ifp (by omega) (Evt.ifn (by omega) (Evt.pure fun _ => rfl)))
      · obtain ⟨v1, e1, n1, p1, r1, s1⟩ := Level_evt (l := l) (by omega) (j : Int) t
        obtain ⟨v2, e2, n2, p2, r2, s2⟩ := Down_rel hm t
        have go1 : ∀ r, Evt (fun k => if v1 ≤ v2 then some (t, true) else (supply_Through.f m v1).bind fun bt => if bt.2.isNone = true then (if bt.1 > t then response_time.l0 k l (j : Int) m bt.1 else response_time.l0 k l (j : Int) m (wrap64 (t + 1))) else some (0, false)) r → Evt (fun k => response_time.l0 k l (j : Int) m t) r := by
          intro r h
          refine Evt.succ ?_
          simp only [response_time.l0]
          exact Evt.ifp (by omega) (Evt.ifp (by omega) (Evt.ifn hgt (Evt.bind p1 (Evt.bind p2 h))))
        have go2 : ∀ r, Evt (fun k => if v1 ≤ v2 then some t else (titheref21_Through.f k m v1).bind fun bt => if bt.2 = 0 then titheref22_time.l0 k l (j : Int) m (mx (wrap64 (t + 1)) bt.1) else some 0) r → Evt (fun k => titheref22_time.l0 k l (j : Int) m t) r := by
          intro r h
          refine Evt.succ ?_
          simp only [titheref22_time.l0]
          exact Evt.ifp (by omega) (Evt.ifp (by omega) (Evt.ifp (by omega) (Evt.bind r1 (Evt.bind r2 h))))
        by_cases hle : v1 ≤ v2
        · exact ⟨t, true, go1 _ (Evt.ifp hle (Evt.pure fun _ => rfl)), go2 _ (Evt.ifp hle (Evt.pure fun _ => rfl)), fun _ => t0, by simp⟩
        · obtain ⟨x, e, n, q1, q2, q3, q4, q5⟩ := Through_rel hm v1
          by_cases he : e = none
          · have hn := q4.1 he
            subst he
            subst hn
            by_cases hxt : x > t
            · by_cases hxd : x > (rd_T52 l (j : Int)).f2
              · refine ⟨0, false, go1 _ (Evt.ifn hle (Evt.call q1 (Evt.ifp rfl (Evt.ifp hxt ?_)))), go2 _ (Evt.ifn hle (Evt.bind q2 (Evt.ifp rfl ?_))), by simp, fun _ => rfl⟩
                · refine Evt.succ ?_
                  simp only [response_time.l0]
                  exact Evt.ifp (by omega) (Evt.ifp (by omega) (Evt.ifp hxd (Evt.pure fun _ => rfl)))
                · rw [show mx (wrap64 (t + 1)) x = x by rw [w64 (by omega) (by omega), mx_max]; omega]
                  refine Evt.succ ?_
                  simp only [titheref22_time.l0]
                  exact Evt.ifp (by omega) (Evt.ifp (by omega) (Evt.ifn (by omega) (Evt.pure fun _ => rfl)))
              · obtain ⟨v, b, y1, y2, y3, y4⟩ := ih ((rd_T52 l (j : Int)).f2 + 1 - x).toNat (by omega) x (by omega) (by omega)
                refine ⟨v, b, go1 _ (Evt.ifn hle (Evt.call q1 (Evt.ifp rfl (Evt.ifp hxt y1)))), go2 _ (Evt.ifn hle (Evt.bind q2 (Evt.ifp rfl ?_))), y3, y4⟩
                rw [show mx (wrap64 (t + 1)) x = x by rw [w64 (by omega) (by omega), mx_max]; omega]
                exact y2
            · obtain ⟨v, b, y1, y2, y3, y4⟩ := ih ((rd_T52 l (j : Int)).f2 + 1 - (t + 1)).toNat (by omega) (t + 1) (by omega) (by omega)
              refine ⟨v, b, go1 _ (Evt.ifn hle (Evt.call q1 (Evt.ifp rfl (Evt.ifn hxt ?_)))), go2 _ (Evt.ifn hle (Evt.bind q2 (Evt.ifp rfl ?_))), y3, y4⟩
              · rw [w64 (n := t + 1) (by omega) (by omega)]; exact y1
              · rw [show mx (wrap64 (t + 1)) x = t + 1 by rw [w64 (by omega) (by omega), mx_max]; omega]
                exact y2
          · have hn : n ≠ 0 := fun h => he (q4.2 h)
            refine ⟨0, false, go1 _ (Evt.ifn hle (Evt.call q1 (Evt.ifn ?_ (Evt.pure fun _ => rfl)))), go2 _ (Evt.ifn hle (Evt.bind q2 (Evt.ifn hn (Evt.pure fun _ => rfl)))), by simp, fun _ => rfl⟩
            cases e with
            | none => exact absurd rfl he
            | some e => simp
  obtain ⟨v, b, h1, h2, h3, h4⟩ := main (rd_T52 l (j : Int)).f2.toNat 1 (by omega) (by omega)
  exact ⟨v, b, h1, h2, h3, h4⟩
theorem fc_ok {l : List S52} {m : List S25} (h : fc l m = 0) : l.length ≤ 8 ∧ ∀ x ∈ l, okp x := by
  unfold fc at h
  by_cases hv : vcode l = 0
  · exact vcode_ok.1 hv
  · rw [if_neg hv] at h; exact absurd h hv
theorem all_rel {l : List S52} {m : List S25} (h8 : l.length ≤ 8) (hm : m.length ≤ 140737488351232) (hok : ∀ x ∈ l, okp x) :
    ∃ L b, Evt (fun k => response_all.f k l m) (L, b) ∧ Evt (fun k => titheref22_All.l0 k l m [] 0) (L, if b = true then 0 else 220) ∧ L.length ≤ 8 := by
  have key : ∀ (d i : Nat) (acc : List Int), i + d = l.length → acc.length = i → ∃ L b, Evt (fun k => response_all.l0 k l m acc (l.length : Int) i) (L, b) ∧ Evt (fun k => titheref22_All.l0 k l m acc i) (L, if b = true then 0 else 220) ∧ L.length ≤ 8 := by
    intro d
    induction d with
    | zero =>
      intro i acc hi ha
      refine ⟨acc, true, Evt.succ (Evt.pure fun k => ?_), Evt.succ (Evt.pure fun k => ?_), by omega⟩
      · simp only [response_all.l0]; rw [if_neg (by omega)]
      · simp only [titheref22_All.l0]; rw [if_neg (by omega)]; rfl
    | succ d ih =>
      intro i acc hi ha
      obtain ⟨v, b, q1, q2, q3, q4⟩ := time_rel h8 hm hok (j := i) (by omega)
      cases b with
      | true =>
        have := q3 rfl
        obtain ⟨L, b', y1, y2, y3⟩ := ih (i + 1) (acc ++ [v]) (by omega) (by simp; omega)
        refine ⟨L, b', Evt.succ ?_, Evt.succ ?_, y3⟩
        · simp only [response_all.l0]
          rw [w1 i (by omega)]
          exact Evt.ifp (by omega) (Evt.bind q1 (Evt.ifp rfl (Evt.ifp (by omega) y1)))
        · simp only [titheref22_All.l0]
          rw [w1 i (by omega)]
          exact Evt.ifp (by omega) (Evt.bind q2 (Evt.ifn (by omega) (Evt.ifp (by omega) y2)))
      | false =>
        have hv := q4 rfl
        subst hv
        refine ⟨[], false, Evt.succ ?_, Evt.succ ?_, by simp⟩
        · simp only [response_all.l0]
          exact Evt.ifp (by omega) (Evt.bind q1 (Evt.ifn (by simp) (Evt.pure fun _ => rfl)))
        · simp only [titheref22_All.l0]
          exact Evt.ifp (by omega) (Evt.bind q2 (Evt.ifp rfl (Evt.pure fun _ => rfl)))
  obtain ⟨L, b, h1, h2, h3⟩ := key l.length 0 [] (by omega) rfl
  exact ⟨L, b, h1, h2, h3⟩
theorem All_rel {l : List S52} {m : List S25} (hl : l.length ≤ 9223372036854775807) (hm : m.length ≤ 140737488351232) :
    ∃ L e n, Evt (fun k => response_All.f k l m) (L, e) ∧ Evt (fun k => titheref22_All.f k l m) (L, n) ∧ nm e = n ∧ (e = none ↔ n = 0) ∧ L.length ≤ 8 ∧ (n = 0 → fc l m = 0) := by
  have h1 := check_evt hl hm
  have h2 := fault_evt hl hm
  by_cases hf : fc l m = 0
  · rw [if_pos hf] at h1
    rw [hf] at h2
    obtain ⟨h8, hok⟩ := fc_ok hf
    obtain ⟨L, b, q1, q2, q3⟩ := all_rel h8 hm hok
    cases b with
    | true =>
      refine ⟨L, none, 0, ?_, ?_, rfl, by simp, q3, fun _ => hf⟩
      · unfold response_All.f; exact Evt.bind h1 (Evt.ifp rfl (Evt.bind q1 (Evt.ifp rfl (Evt.pure fun _ => rfl))))
      · unfold titheref22_All.f; exact Evt.bind h2 (Evt.ifp rfl q2)
    | false =>
      have hL : L = [] := by
        have key : ∀ (d i : Nat) (acc : List Int), i + d = l.length → ∀ k r, response_all.l0 k l m acc (l.length : Int) i = some (r, false) → r = [] := by
          intro d
          induction d with
          | zero =>
            intro i acc hi k r hr
            cases k with
            | zero => simp [response_all.l0] at hr
            | succ k =>
              simp only [response_all.l0] at hr
              rw [if_neg (by omega)] at hr
              simp at hr
          | succ d ih =>
            intro i acc hi k r hr
            cases k with
            | zero => simp [response_all.l0] at hr
            | succ k =>
              simp only [response_all.l0] at hr
              rw [if_pos (by omega), w1 i (by omega)] at hr
              obtain ⟨⟨v, b⟩, _, hr⟩ := Option.bind_eq_some_iff.1 hr
              cases b with
              | true =>
                rw [if_pos rfl] at hr
                by_cases hq : acc.length < 17592186044416
                · rw [if_pos hq] at hr; exact ih (i + 1) _ (by omega) k r hr
                · rw [if_neg hq] at hr; simp at hr
              | false =>
                rw [if_neg (by simp)] at hr
                simp at hr; exact hr
        obtain ⟨k, hk⟩ := q1.ex
        exact key l.length 0 [] (by omega) k L hk
      subst hL
      refine ⟨[], some 220, 220, ?_, ?_, rfl, by simp, by simp, by simp⟩
      · unfold response_All.f; exact Evt.bind h1 (Evt.ifp rfl (Evt.bind q1 (Evt.ifn (by simp) (Evt.pure fun _ => rfl))))
      · unfold titheref22_All.f; exact Evt.bind h2 (Evt.ifp rfl q2)
  · rw [if_neg hf] at h1
    refine ⟨[], some (fc l m), fc l m, ?_, ?_, rfl, by simp [hf], by simp, fun h => absurd h hf⟩
    · unfold response_All.f; exact Evt.bind h1 (Evt.ifn (by simp) (Evt.pure fun _ => rfl))
    · unfold titheref22_All.f; exact Evt.bind h2 (Evt.ifn hf (Evt.pure fun _ => rfl))
theorem fc_row {l : List S52} {m : List S25} (h : fc l m = 0) : m.length ≤ 8 ∧ ∀ x ∈ m, okr (pr x) := by
  have hv := (fc_ok h)
  unfold fc at h
  rw [if_pos (vcode_ok.2 hv)] at h
  have := rcode_ok.1 h
  exact ⟨this.1, this.2.1⟩
end Go.Proofs.YtelihhegkdjdoaaDoor.Pure
