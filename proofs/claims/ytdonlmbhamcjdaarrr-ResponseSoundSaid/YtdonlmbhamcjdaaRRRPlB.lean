/- What the functions of the package demand answer for one entry, and for all: plain numbers. No conditions. -/
import Derived.Test.YtdonlmbhamcjdaaRRRAid
import Derived.Test.YtdonlmbhamcjdaaRRRLst
import Derived.Test.YtdonlmbhamcjdaaRRRJx7
import Derived.Test.YtdonlmbhamcjdaaRRRJx4
import Derived.Test.YtdonlmbhamcjdaaRRRJx2
import Derived.Test.YtdonlmbhamcjdaaRRRJx6
import Derived.Test.YtdonlmbhamcjdaaRRRJx7
import Derived.Test.YtdonlmbhamcjdaaRRRJx2
import Derived.Test.YtdonlmbhamcjdaaRRRJx3
import Derived.Test.YtdonlmbhamcjdaaRRRJx12
import Derived.Test.YtdonlmbhamcjdaaRRRJx5
import Derived.Test.YtdonlmbhamcjdaaRRRJx5
import Derived.Test.YtdonlmbhamcjdaaRRRJx12
namespace Go.Proofs.YtdonlmbhamcjdaaRRR.Pure
open Go Go.RowKit Tithe Go.Proofs.YtdonlmbhamcjdaaRRR.J Go.Proofs.YtdonlmbhamcjdaaRRRW.PrintWords Go.Proofs.YtdonlmbhamcjdaaRRRW.PrintLast Go.Proofs.YtdonlmbhamcjdaaRRRW.PrintMore

theorem Evt.of_mono {α : Type} {g : Nat → Option α} {r : α} (hm : ∀ k, LeO (g k) (g (k + 1))) {K : Nat} (h : g K = some r) : Evt g r := by
  refine ⟨K, fun k hk => ?_⟩
  obtain ⟨d, rfl⟩ : ∃ d, k = K + d := ⟨k - K, by omega⟩
  clear hk
  induction d with
  | zero => exact h
  | succ d ih => exact hm (K + d) r ih

/-- an error's number -/
def nm (e : Option Int) : Int := e.getD 0
/-- an entry that may be -/
def okp (x : S43) : Prop := 1 ≤ x.f0 ∧ x.f0 ≤ 1048576 ∧ 1 ≤ x.f1 ∧ x.f1 ≤ 1048576 ∧ 1 ≤ x.f2 ∧ x.f2 ≤ x.f0 ∧ 0 ≤ x.f3 ∧ x.f3 ≤ 31
instance (x : S43) : Decidable (okp x) := by unfold okp; infer_instance

theorem valid_eq (x : S43) : demand_valid.f x.f0 x.f1 x.f2 x.f3 = some (decide (okp x)) := by
  unfold demand_valid.f demand_is.f
  by_cases h1 : x.f0 ≥ 1
  · rw [if_pos h1]
    by_cases h2 : x.f0 ≤ 1048576
    · simp only [Option.bind_some, decide_eq_true h2, if_true]
      by_cases h3 : x.f1 ≥ 1
      · rw [if_pos h3]
        by_cases h4 : x.f1 ≤ 1048576
        · simp only [Option.bind_some, decide_eq_true h4, if_true]
          by_cases h5 : x.f2 ≥ 1
          · rw [if_pos h5]
            by_cases h6 : x.f2 ≤ x.f0
            · simp only [Option.bind_some, decide_eq_true h6, if_true]
              by_cases h7 : x.f3 ≥ 0
              · rw [if_pos h7]
                simp only [Option.bind_some]
                congr 1
                by_cases h8 : x.f3 ≤ 31
                · rw [decide_eq_true h8, decide_eq_true (show okp x from ⟨h1, h2, h3, h4, h5, h6, h7, h8⟩)]
                · rw [decide_eq_false h8, decide_eq_false (show ¬ okp x by unfold okp; omega)]
              · rw [if_neg h7]; simp only [Option.bind_some]; rw [decide_eq_false (show ¬ okp x by unfold okp; omega)]
            · simp only [Option.bind_some, decide_eq_false h6, Bool.false_eq_true, if_false]; rw [decide_eq_false (show ¬ okp x by unfold okp; omega)]
          · rw [if_neg h5]; simp only [Option.bind_some, Bool.false_eq_true, if_false]; rw [decide_eq_false (show ¬ okp x by unfold okp; omega)]
        · simp only [Option.bind_some, decide_eq_false h4, Bool.false_eq_true, if_false]; rw [decide_eq_false (show ¬ okp x by unfold okp; omega)]
      · rw [if_neg h3]; simp only [Option.bind_some, Bool.false_eq_true, if_false]; rw [decide_eq_false (show ¬ okp x by unfold okp; omega)]
    · simp only [Option.bind_some, decide_eq_false h2, Bool.false_eq_true, if_false]; rw [decide_eq_false (show ¬ okp x by unfold okp; omega)]
  · rw [if_neg h1]; simp only [Option.bind_some, Bool.false_eq_true, if_false]; rw [decide_eq_false (show ¬ okp x by unfold okp; omega)]

theorem One_eq (x : S43) : titheref20_One.f x.f0 x.f1 x.f2 x.f3 = some (if okp x then 0 else 2) := by
  unfold titheref20_One.f
  by_cases h : okp x
  · have h' := h
    unfold okp at h'
    rw [if_pos h, if_neg (by omega), if_neg (by omega), if_neg (by omega), if_neg (by omega), if_neg (by omega), if_neg (by omega), if_neg (by omega), if_neg (by omega)]
  · rw [if_neg h]
    have h' := h
    unfold okp at h'
    repeat' (first | rfl | (split) | (exfalso; apply h'; omega))

/-- how many periods begin ahead of u -/
def cl (e u : Int) : Int := (u + e - 1) / e
/-- what an entry can ask for -/
def rq (x : S43) (t : Int) : Int := x.f1 * cl x.f0 t

theorem cl_split {e q r : Int} (h0 : 0 ≤ r) (h1 : r < e) : cl e (q * e + r) = if r = 0 then q else q + 1 := by
  unfold cl
  by_cases h : r = 0
  · rw [if_pos h, show q * e + r + e - 1 = q * e + (e - 1) by omega, div_mul_add (by omega) (by omega)]
  · rw [if_neg h, show q * e + r + e - 1 = (q + 1) * e + (r - 1) by rw [Int.add_mul]; omega, div_mul_add (by omega) (by omega)]
theorem cl_nonneg {e u : Int} (he : 1 ≤ e) (hu : 0 ≤ u) : 0 ≤ cl e u := Int.ediv_nonneg (by omega) (by omega)
theorem cl_le {e u : Int} (he : 1 ≤ e) (hu : 0 ≤ u) : cl e u ≤ u := by
  obtain ⟨q, r, rfl, h0, h1⟩ := split u (p := e) (by omega)
  rw [cl_split h0 h1]
  have hq : 0 ≤ q := by
    by_cases hq : 0 ≤ q
    · exact hq
    · have : q * e ≤ -1 * e := Int.mul_le_mul_of_nonneg_right (by omega) (by omega)
      omega
  have : q * 1 ≤ q * e := Int.mul_le_mul_of_nonneg_left he hq
  split <;> omega
theorem cl_mono {e u v : Int} (he : 1 ≤ e) (h : u ≤ v) : cl e u ≤ cl e v := Int.ediv_le_ediv (by omega) (by omega)
theorem cl_zero {e : Int} (he : 1 ≤ e) : cl e 0 = 0 := by
  have := cl_split (e := e) (q := 0) (r := 0) (by omega) (by omega)
  simpa using this
theorem cl_add {e u v : Int} (he : 1 ≤ e) : cl e (u + v) ≤ cl e u + cl e v := by
  obtain ⟨q, r, rfl, h0, h1⟩ := split u (p := e) (by omega)
  obtain ⟨q', r', rfl, h0', h1'⟩ := split v (p := e) (by omega)
  rw [cl_split h0 h1, cl_split h0' h1']
  by_cases h : r + r' < e
  · rw [show q * e + r + (q' * e + r') = (q + q') * e + (r + r') by rw [Int.add_mul]; omega, cl_split (by omega) h]
    repeat' split
    all_goals omega
  · rw [show q * e + r + (q' * e + r') = (q + q' + 1) * e + (r + r' - e) by rw [Int.add_mul, Int.add_mul]; omega, cl_split (by omega) (by omega)]
    repeat' split
    all_goals omega
theorem cl_mult {e u v : Int} (he : 1 ≤ e) (h : u % e = 0) : cl e (u + v) = cl e u + cl e v := by
  obtain ⟨q, r, rfl, h0, h1⟩ := split u (p := e) (by omega)
  obtain ⟨q', r', rfl, h0', h1'⟩ := split v (p := e) (by omega)
  have hr : r = 0 := by
    rw [Int.add_comm, Int.add_mul_emod_self_right, Int.emod_eq_of_lt h0 h1] at h; exact h
  subst hr
  rw [show q * e + 0 + (q' * e + r') = (q + q') * e + r' by rw [Int.add_mul]; omega, cl_split h0' h1', cl_split h0' h1', cl_split (by omega) h1, if_pos rfl]
  split <;> omega
theorem cl_step {e u : Int} (he : 1 ≤ e) : cl e (u + 1) = cl e u + if u % e = 0 then 1 else 0 := by
  obtain ⟨q, r, rfl, h0, h1⟩ := split u (p := e) (by omega)
  have hr : (q * e + r) % e = r := by rw [Int.add_comm, Int.add_mul_emod_self_right, Int.emod_eq_of_lt h0 h1]
  rw [hr, cl_split h0 h1]
  by_cases h : r + 1 < e
  · rw [show q * e + r + 1 = q * e + (r + 1) by omega, cl_split (by omega) h]
    repeat' split
    all_goals omega
  · rw [show q * e + r + 1 = (q + 1) * e + 0 by rw [Int.add_mul]; omega, cl_split (by omega) (by omega)]
    repeat' split
    all_goals omega

theorem rq_bounds {x : S43} (hx : okp x) {t : Int} (h0 : 0 ≤ t) (h1 : t ≤ 2147483648) : 0 ≤ rq x t ∧ rq x t ≤ 2251799813685248 := by
  obtain ⟨a, b, c, d, _⟩ := hx
  have e0 := cl_nonneg a h0
  have e1 := cl_le a h0
  unfold rq
  refine ⟨Int.mul_nonneg (by omega) e0, ?_⟩
  have : x.f1 * cl x.f0 t ≤ 1048576 * 2147483648 := Int.mul_le_mul d (by omega) e0 (by omega)
  omega

theorem requests_ok {x : S43} (hx : okp x) {t : Int} (h0 : 0 ≤ t) (h1 : t ≤ 2147483648) : demand_requests.f x.f0 x.f1 x.f2 x.f3 t = some (rq x t) := by
  have hb := rq_bounds hx h0 h1
  obtain ⟨a, b, c, d, _⟩ := hx
  unfold demand_requests.f
  have e0 := cl_nonneg a h0
  have e1 := cl_le a h0
  rw [if_neg (by omega), w64 (n := t + x.f0) (by omega) (by omega), w64 (n := t + x.f0 - 1) (by omega) (by omega), tdiv_pos (by omega)]
  show some (wrap64 (x.f1 * wrap64 (cl x.f0 t))) = _
  rw [w64 (n := cl x.f0 t) (by omega) (by omega)]
  unfold rq at *
  rw [w64 (by omega) (by omega)]
theorem rd_get {l : List S43} {i : Nat} (h : i < l.length) : rd_T43 l (i : Int) = l[i] := by
  simp [rd_T43, List.getD, List.getElem?_eq_getElem h]

/-- the error of all work -/
def vcode (l : List S43) : Int := if l.length > 8 then 3 else if ∀ x ∈ l, okp x then 0 else 2
def verr (l : List S43) : Option Int := if vcode l = 0 then none else some (vcode l)
theorem vcode_ok {l : List S43} : vcode l = 0 ↔ l.length ≤ 8 ∧ ∀ x ∈ l, okp x := by
  unfold vcode
  by_cases h : l.length > 8
  · rw [if_pos h]; constructor
    · intro h; omega
    · rintro ⟨a, _⟩; omega
  · rw [if_neg h]
    by_cases h2 : ∀ x ∈ l, okp x
    · rw [if_pos h2]; exact ⟨fun _ => ⟨by omega, h2⟩, fun _ => rfl⟩
    · rw [if_neg h2]; exact ⟨fun h => by omega, fun h => absurd h.2 h2⟩

theorem Valid_evt (l : List S43) (hl : l.length ≤ 4398046511104) : Evt (fun k => demand_Valid.f k l) (verr l) := by
  unfold demand_Valid.f
  by_cases h8 : (l.length : Int) > 8
  · refine Evt.ifp h8 (Evt.pure fun _ => ?_)
    have hv : vcode l = 3 := by unfold vcode; rw [if_pos (by omega)]
    unfold verr; rw [hv]; rfl
  · refine Evt.ifn h8 ?_
    have key : ∀ (d i : Nat), i + d = l.length → (∀ x ∈ l.take i, okp x) → Evt (fun k => demand_Valid.l0 k l (l.length : Int) i) (verr l) := by
      intro d
      induction d with
      | zero =>
        intro i hi hall
        refine Evt.succ (Evt.pure fun k => ?_)
        simp only [demand_Valid.l0]
        rw [if_neg (by omega)]
        rw [List.take_of_length_le (by omega)] at hall
        unfold verr; rw [if_pos (vcode_ok.2 ⟨by omega, hall⟩)]
      | succ d ih =>
        intro i hi hall
        refine Evt.succ ?_
        simp only [demand_Valid.l0]
        rw [w1 i (by omega)]
        refine Evt.ifp (by omega) (Evt.ifp (by omega) (Evt.ifp (by omega) (Evt.call (a := decide (okp l[i])) ?_ ?_)))
        · rw [rd_get (by omega)]; exact valid_eq _
        · by_cases hx : okp l[i]
          · refine Evt.ifp (decide_eq_true hx) (ih (i + 1) (by omega) ?_)
            rw [List.take_succ_eq_append_getElem (by omega)]
            intro x hx'
            rcases List.mem_append.1 hx' with h | h
            · exact hall x h
            · rw [List.mem_singleton.1 h]; exact hx
          · refine Evt.ifn (by rw [decide_eq_false hx]; simp) (Evt.pure fun _ => ?_)
            have hv : vcode l = 2 := by
              unfold vcode; rw [if_neg (by omega), if_neg (fun h => hx (h _ (List.getElem_mem _)))]
            unfold verr; rw [hv]; rfl
    exact key l.length 0 (by omega) (by simp)

theorem refValid_evt (l : List S43) (hl : l.length ≤ 4398046511104) : Evt (fun k => titheref20_Valid.f k l) (vcode l) := by
  unfold titheref20_Valid.f
  by_cases h8 : (l.length : Int) > 8
  · refine Evt.ifp h8 (Evt.pure fun _ => ?_)
    unfold vcode; rw [if_pos (by omega)]
  · refine Evt.ifn h8 ?_
    have key : ∀ (d i : Nat), i + d = l.length → (∀ x ∈ l.take i, okp x) → Evt (fun k => titheref20_Valid.l0 k l i) (vcode l) := by
      intro d
      induction d with
      | zero =>
        intro i hi hall
        refine Evt.succ (Evt.pure fun k => ?_)
        simp only [titheref20_Valid.l0]
        rw [if_neg (by omega)]
        rw [List.take_of_length_le (by omega)] at hall
        rw [vcode_ok.2 ⟨by omega, hall⟩]
      | succ d ih =>
        intro i hi hall
        refine Evt.succ ?_
        simp only [titheref20_Valid.l0]
        rw [w1 i (by omega)]
        refine Evt.ifp (by omega) (Evt.ifp (by omega) (Evt.call (a := if okp l[i] then 0 else 2) ?_ ?_))
        · rw [rd_get (by omega)]; exact One_eq _
        · by_cases hx : okp l[i]
          · rw [if_pos hx]
            refine Evt.ifp rfl (ih (i + 1) (by omega) ?_)
            rw [List.take_succ_eq_append_getElem (by omega)]
            intro x hx'
            rcases List.mem_append.1 hx' with h | h
            · exact hall x h
            · rw [List.mem_singleton.1 h]; exact hx
          · rw [if_neg hx]
            refine Evt.ifn (by omega) (Evt.pure fun _ => ?_)
            unfold vcode; rw [if_neg (by omega), if_neg (fun h => hx (h _ (List.getElem_mem _)))]
    exact key l.length 0 (by omega) (by simp)

theorem nm_verr (l : List S43) : nm (verr l) = vcode l := by
  unfold nm verr
  by_cases h : vcode l = 0
  · rw [if_pos h, h]; rfl
  · rw [if_neg h]; rfl
theorem is_eq (a b c : Int) : demand_is.f a b c = some (decide (b ≤ a ∧ a ≤ c)) := by
  unfold demand_is.f
  by_cases h : a ≥ b
  · rw [if_pos h]
    by_cases h2 : a ≤ c
    · rw [decide_eq_true h2, decide_eq_true (⟨h, h2⟩)]
    · rw [decide_eq_false h2, decide_eq_false (by omega)]
  · rw [if_neg h, decide_eq_false (by omega)]
/-- is k ahead of i? -/
def ab (l : List S43) (k i : Nat) : Bool := decide ((rd_T43 l (k : Int)).f3 < (rd_T43 l (i : Int)).f3 ∨ (rd_T43 l (k : Int)).f3 = (rd_T43 l (i : Int)).f3 ∧ k < i)
/-- the places, those ahead first -/
def ol (l : List S43) : List Nat := srt (fun i k : Nat => decide ((rd_T43 l (i : Int)).f3 < (rd_T43 l (k : Int)).f3)) (List.range l.length)
theorem ordl_eq (l : List S43) : ordl l = (ol l).map fun j : Nat => (j : Int) := rfl
theorem ol_perm (l : List S43) : (ol l).Perm (List.range l.length) := srt_perm _ _
theorem ol_length (l : List S43) : (ol l).length = l.length := by rw [(ol_perm l).length_eq, List.length_range]
theorem ol_mem {l : List S43} {i : Nat} : i ∈ ol l ↔ i < l.length := by rw [(ol_perm l).mem_iff, List.mem_range]
theorem ol_nodup (l : List S43) : (ol l).Nodup := (ol_perm l).nodup_iff.2 List.nodup_range
theorem ol_sorted (l : List S43) : (ol l).Pairwise (fun a b => ab l a b = true) := by
  refine List.Pairwise.imp ?_ (srt_sorted (fun i : Nat => (rd_T43 l (i : Int)).f3) (fun i : Nat => (i : Int)) (List.range l.length) ?_)
  · intro a b h
    simp only [ahd] at h
    unfold ab
    rw [decide_eq_true_eq]; omega
  · refine List.Pairwise.imp ?_ List.pairwise_lt_range
    intro a b h; omega
theorem ab_irr (l : List S43) (i : Nat) : ab l i i = false := by unfold ab; rw [decide_eq_false_iff_not]; omega
theorem ab_asymm {l : List S43} {a b : Nat} (h : ab l a b = true) : ab l b a = false := by
  unfold ab at *; rw [decide_eq_true_eq] at h; rw [decide_eq_false_iff_not]; omega
theorem ol_split {l : List S43} {i : Nat} (hi : i < l.length) : ∃ A B, ol l = A ++ i :: B ∧ (∀ k ∈ A, ab l k i = true) ∧ (∀ k ∈ B, ab l k i = false) ∧ i ∉ A := by
  obtain ⟨A, B, h⟩ := List.append_of_mem (ol_mem.2 hi)
  have hs := ol_sorted l
  have hn := ol_nodup l
  rw [h] at hs hn
  rw [List.pairwise_append] at hs
  rw [List.nodup_append] at hn
  refine ⟨A, B, h, fun k hk => hs.2.2 k hk i (List.mem_cons_self ..), fun k hk => ?_, fun hA => hn.2.2 i hA i (List.mem_cons_self ..) rfl⟩
  have := (List.pairwise_cons.1 hs.2.1).1 k hk
  exact ab_asymm this
theorem filter_split {l : List S43} {i : Nat} {A B : List Nat} (h : ol l = A ++ i :: B) (hA : ∀ k ∈ A, ab l k i = true) (hB : ∀ k ∈ B, ab l k i = false) : (ol l).filter (fun k => ab l k i) = A := by
  rw [h, List.filter_append, List.filter_cons_of_neg (by rw [ab_irr]; simp), List.filter_eq_self.2 (fun k hk => hA k hk), List.filter_eq_nil_iff.2 (fun k hk => by rw [hB k hk]; simp), List.append_nil]
theorem perm_sum {l1 l2 : List Nat} (h : l1.Perm l2) (f : Nat → Int) : (l1.map f).sum = (l2.map f).sum := by
  induction h with
  | nil => rfl
  | cons x _ ih => simp only [List.map_cons, List.sum_cons, ih]
  | swap x y l => simp only [List.map_cons, List.sum_cons]; omega
  | trans _ _ ih1 ih2 => exact ih1.trans ih2
theorem take_split {A B : List Nat} {i : Nat} (h : i ∉ A) : (A ++ i :: B).takeWhile (fun j => j != i) = A := by
  induction A with
  | nil => simp
  | cons a A ih =>
    rw [List.mem_cons, not_or] at h
    rw [List.cons_append, List.takeWhile_cons, if_pos (bne_iff_ne.2 (fun e => h.1 e.symm)), ih h.2]
/-- the entries that are ahead of one -/
def ahl (l : List S43) (i : Nat) : List S43 := ((ol l).takeWhile (fun j => j != i)).map fun j : Nat => rd_T43 l (j : Int)
/-- a sum over those ahead: along the order, or along the places -/
theorem ahl_sum {l : List S43} {i : Nat} (hi : i < l.length) (f : S43 → Int) : ((ahl l i).map f).sum = (((List.range l.length).filter fun k => ab l k i).map fun k : Nat => f (rd_T43 l (k : Int))).sum := by
  obtain ⟨A, B, h, hA, hB, hn⟩ := ol_split hi
  unfold ahl
  rw [h, take_split hn, List.map_map]
  have hp := ((ol_perm l).filter (fun k => ab l k i))
  rw [filter_split h hA hB] at hp
  exact perm_sum hp (fun k : Nat => f (rd_T43 l (k : Int)))

theorem rd_map (L : List Nat) {i : Nat} (h : i < L.length) : rd (L.map fun j : Nat => (j : Int)) (i : Int) = (L[i] : Int) := by
  simp [rd, List.getD, h]

theorem ahead_evt {l : List S43} (hl : l.length ≤ 8) (i : Nat) : Evt (fun k => demand_ahead.f k l (i : Int)) (ahl l i) := by
  unfold demand_ahead.f
  refine Evt.call (a := ordl l) (by unfold demand_order.f; rw [if_pos (by omega)]) ?_
  rw [ordl_eq]
  have hlen : ((ol l).map fun j : Nat => (j : Int)).length = (ol l).length := List.length_map _
  rw [hlen]
  have key : ∀ (d p : Nat) (acc : List S43), p + d = (ol l).length → acc.length ≤ p → Evt (fun k => demand_ahead.l0 k l (i : Int) acc ((ol l).map fun j : Nat => (j : Int)) ((ol l).length : Int) p) (acc ++ (((ol l).drop p).takeWhile (fun j => j != i)).map fun j : Nat => rd_T43 l (j : Int)) := by
    intro d
    induction d with
    | zero =>
      intro p acc hp _
      refine Evt.succ (Evt.pure fun k => ?_)
      simp only [demand_ahead.l0]
      rw [if_neg (by omega), List.drop_of_length_le (by omega)]; simp
    | succ d ih =>
      intro p acc hp ha
      have h8 := ol_length l
      refine Evt.succ ?_
      simp only [demand_ahead.l0]
      rw [w1 p (by omega), hlen, rd_map (ol l) (by omega)]
      have hm : (ol l)[p] < l.length := ol_mem.1 (List.getElem_mem _)
      refine Evt.ifp (by omega) (Evt.ifp (by omega) (Evt.ifp (by omega) ?_))
      rw [List.drop_eq_getElem_cons (show p < (ol l).length by omega), List.takeWhile_cons]
      by_cases he : (ol l)[p] = i
      · rw [if_neg (by simp [he])]
        refine Evt.ifp (by omega) (Evt.pure fun _ => by simp)
      · rw [if_pos (bne_iff_ne.2 he)]
        refine Evt.ifn (by omega) (Evt.ifp (by omega) (Evt.ifp (by omega) (Evt.ifp (by omega) ?_)))
        have := ih (p + 1) (acc ++ [rd_T43 l ((ol l)[p] : Int)]) (by omega) (by simp; omega)
        rw [List.map_cons, show acc ++ rd_T43 l ((ol l)[p] : Int) :: ((ol l).drop (p + 1) |>.takeWhile (fun j => j != i)).map (fun j : Nat => rd_T43 l (j : Int)) = (acc ++ [rd_T43 l ((ol l)[p] : Int)]) ++ ((ol l).drop (p + 1) |>.takeWhile (fun j => j != i)).map (fun j : Nat => rd_T43 l (j : Int)) by simp]
        exact this
  have := key (ol l).length 0 [] (by omega) (by simp)
  simpa [ahl] using this

theorem Ahead_ok {l : List S43} {k i : Nat} (hk : k < l.length) (hi : i < l.length) : titheref20_Ahead.f l (k : Int) (i : Int) = some (ab l k i) := by
  unfold titheref20_Ahead.f ab
  rw [if_pos (by omega), if_pos (by omega), if_pos (by omega), if_pos (by omega)]
  by_cases h1 : (rd_T43 l (k : Int)).f3 < (rd_T43 l (i : Int)).f3
  · rw [if_pos h1, decide_eq_true (.inl h1)]
  · rw [if_neg h1]
    by_cases h2 : (rd_T43 l (k : Int)).f3 = (rd_T43 l (i : Int)).f3
    · rw [if_pos h2]
      by_cases h3 : k < i
      · rw [decide_eq_true (by omega), decide_eq_true (.inr ⟨h2, h3⟩)]
      · rw [decide_eq_false (by omega), decide_eq_false (by omega)]
    · rw [if_neg h2, decide_eq_false (by omega)]

theorem refOrder_evt {l : List S43} (hl : l.length ≤ 8) (hv : vcode l = 0) : Evt (fun k => titheref20_Order.f k l) (ordl l, 0) := by
  unfold titheref20_Order.f
  refine Evt.bind (refValid_evt l (by omega)) ?_
  rw [hv]
  refine Evt.ifp rfl (Evt.ifp (by omega) (Evt.ifp (by omega) ?_))
  have inner : ∀ (out : List Int) (m : Nat) (r : List Int × Int), m < l.length → out.length = l.length →
      ∀ (d kk c : Nat), kk + d = l.length → c ≤ kk → c + (((List.range l.length).drop kk).countP fun k => ab l k m) < l.length →
      Evt (fun k => titheref20_Order.l0 k l (out.set (c + (((List.range l.length).drop kk).countP fun k => ab l k m)) (m : Int)) ((m + 1 : Nat) : Int)) r →
      Evt (fun k => titheref20_Order.l1 k l out m c kk) r := by
    intro out m r hm ho d
    induction d with
    | zero =>
      intro kk c hk hc hlt h
      refine Evt.succ ?_
      simp only [titheref20_Order.l1]
      rw [List.drop_of_length_le (by rw [List.length_range]; omega)] at h hlt
      simp only [List.countP_nil, Nat.add_zero] at h hlt
      rw [w1 m (by omega)]
      refine Evt.ifn (by omega) (Evt.ifp (by omega) (Evt.ifp (by omega) ?_))
      rw [Int.toNat_natCast]; exact h
    | succ d ih =>
      intro kk c hk hc hlt h
      refine Evt.succ ?_
      simp only [titheref20_Order.l1]
      rw [List.drop_eq_getElem_cons (show kk < (List.range l.length).length by rw [List.length_range]; omega), List.getElem_range, List.countP_cons] at h hlt
      rw [w1 kk (by omega)]
      refine Evt.ifp (by omega) ?_
      by_cases he : kk = m
      · subst he
        rw [ab_irr] at h hlt
        simp only [Bool.false_eq_true, if_false, Nat.add_zero] at h hlt
        exact Evt.ifp rfl (ih (kk + 1) c (by omega) (by omega) hlt h)
      · refine Evt.ifn (by omega) (Evt.call (Ahead_ok (by omega) hm) ?_)
        cases hab : ab l kk m with
        | true =>
          rw [hab] at h hlt
          simp only [if_true] at h hlt
          rw [w1 c (by omega)]
          refine Evt.ifp rfl (ih (kk + 1) (c + 1) (by omega) (by omega) (by omega) ?_)
          rw [show c + 1 + ((List.range l.length).drop (kk + 1)).countP (fun k => ab l k m) = c + (((List.range l.length).drop (kk + 1)).countP (fun k => ab l k m) + 1) by omega]
          exact h
        | false =>
          rw [hab] at h hlt
          simp only [Bool.false_eq_true, if_false, Nat.add_zero] at h hlt
          exact Evt.ifn (by simp) (ih (kk + 1) c (by omega) (by omega) hlt h)
  have key : ∀ (d m : Nat) (out : List Int), m + d = l.length → out.length = l.length → (∀ (p v : Nat), (ol l)[p]? = some v → v < m → out[p]? = some (v : Int)) → Evt (fun k => titheref20_Order.l0 k l out m) (ordl l, 0) := by
    intro d
    induction d with
    | zero =>
      intro m out hm ho hp
      refine Evt.succ (Evt.pure fun k => ?_)
      simp only [titheref20_Order.l0]
      rw [if_neg (by omega)]
      congr 2
      apply List.ext_getElem?
      intro p
      rw [ordl_eq, List.getElem?_map]
      by_cases h : p < l.length
      · have hq : p < (ol l).length := by rw [ol_length]; exact h
        have hv := hp p _ (List.getElem?_eq_getElem hq) (by have := ol_mem.1 (List.getElem_mem hq); omega)
        rw [hv, List.getElem?_eq_getElem hq]; rfl
      · rw [List.getElem?_eq_none (by omega), List.getElem?_eq_none (by rw [ol_length]; omega)]; rfl
    | succ d ih =>
      intro m out hm ho hp
      refine Evt.succ ?_
      simp only [titheref20_Order.l0]
      refine Evt.ifp (by omega) ?_
      obtain ⟨A, B, h, hA, hB, hn⟩ := ol_split (l := l) (i := m) (by omega)
      have hcnt : (List.range l.length).countP (fun k => ab l k m) = A.length := by
        rw [← (ol_perm l).countP_eq, List.countP_eq_length_filter, filter_split h hA hB]
      have hAl : A.length < l.length := by have := ol_length l; rw [h, List.length_append, List.length_cons] at this; omega
      refine inner out m _ (by omega) ho l.length 0 0 (by omega) (by omega) (by rw [List.drop_zero, hcnt]; omega) ?_
      rw [List.drop_zero, hcnt, Nat.zero_add]
      refine ih (m + 1) _ (by omega) (by rw [List.length_set]; exact ho) ?_
      intro p v hv hlt
      by_cases hpa : p = A.length
      · subst hpa
        rw [h, List.getElem?_append_right (Nat.le_refl _), Nat.sub_self] at hv
        simp only [List.getElem?_cons_zero, Option.some.injEq] at hv
        subst hv
        rw [List.getElem?_set_self (by omega)]
      · rw [List.getElem?_set_ne (fun e => hpa e.symm)]
        refine hp p v hv ?_
        have : v ≠ m := by
          rintro rfl
          have hq : A.length < (ol l).length := by rw [ol_length]; exact hAl
          have h1 : (ol l)[A.length]? = some v := by rw [h, List.getElem?_append_right (Nat.le_refl _), Nat.sub_self]; rfl
          have := (List.getElem?_inj hq (ol_nodup l)).1 (h1.trans hv.symm)
          exact hpa this.symm
        omega
  have := key l.length 0 (List.replicate l.length 0) (by omega) (by simp) (fun p v _ h => by omega)
  simpa using this

theorem Order_evt {l : List S43} (hl : l.length ≤ 4398046511104) : Evt (fun k => demand_Order.f k l) (if vcode l = 0 then (ordl l, none) else ([], some (vcode l))) := by
  unfold demand_Order.f
  refine Evt.bind (Valid_evt l hl) ?_
  by_cases hv : vcode l = 0
  · have h8 := (vcode_ok.1 hv).1
    rw [if_pos hv]
    unfold verr
    rw [if_pos hv]
    refine Evt.ifp rfl (Evt.call (a := ordl l) (by unfold demand_order.f; rw [if_pos (by omega)]) (Evt.pure fun _ => rfl))
  · rw [if_neg hv]
    unfold verr
    rw [if_neg hv]
    exact Evt.ifn (by simp) (Evt.pure fun _ => rfl)
theorem refOrder_all {l : List S43} (hl : l.length ≤ 4398046511104) : Evt (fun k => titheref20_Order.f k l) (if vcode l = 0 then (ordl l, 0) else ([], vcode l)) := by
  by_cases hv : vcode l = 0
  · rw [if_pos hv]; exact refOrder_evt (vcode_ok.1 hv).1 hv
  · rw [if_neg hv]
    unfold titheref20_Order.f
    exact Evt.bind (refValid_evt l hl) (Evt.ifn hv (Evt.pure fun _ => rfl))
theorem works22 : tithelaw22_works.f 60 = some true := by decide +kernel
theorem works22_evt : Evt (fun k => tithelaw22_works.f k) true := Evt.of_mono (fun k => tithelaw22_works.mono k) works22
theorem num22 (e : Option Int) : tithelaw22_num.f e = some (nm e) := by
  unfold tithelaw22_num.f nm
  cases e <;> rfl
theorem twin22 (l : List S43) (h : l.length < 4398046511104) : tithelaw22_twin.f l = some l := by
  unfold tithelaw22_twin.f
  rw [if_pos (by simpa using h)]; rfl
theorem ints22 (a : List Int) (ha : a.length ≤ 4398046511104) : Evt (fun k => tithelaw22_ints.f k a a) true := by
  unfold tithelaw22_ints.f
  refine Evt.ifp rfl ?_
  have key : ∀ (d p : Nat), p + d = a.length → Evt (fun k => tithelaw22_ints.l0 k a a p) true := by
    intro d
    induction d with
    | zero =>
      intro p hp
      refine Evt.succ (Evt.pure fun k => ?_)
      simp only [tithelaw22_ints.l0]
      rw [if_neg (by omega)]
    | succ d ih =>
      intro p hp
      refine Evt.succ ?_
      simp only [tithelaw22_ints.l0, if_true]
      rw [w1 p (by omega)]
      exact Evt.ifp (by omega) (Evt.ifp (by omega) (Evt.ifp (by omega) (ih (p + 1) (by omega))))
  exact key a.length 0 (by omega)

theorem down0 : supply_Down.f 4 [] 0 = some (0, none) := by decide +kernel
theorem check0_evt {l : List S43} (hl : l.length ≤ 4398046511104) : Evt (fun k => response_check.f k l []) (verr l) := by
  unfold response_check.f
  refine Evt.bind (Valid_evt l hl) ?_
  by_cases hv : verr l = none
  · rw [hv]
    exact Evt.ifp rfl (Evt.bind (Evt.of_mono (fun k => supply_Down.mono _ _ k) down0) (Evt.pure fun _ => rfl))
  · obtain ⟨e, he⟩ := Option.ne_none_iff_exists'.1 hv
    rw [he]
    exact Evt.ifn (by simp) (Evt.pure fun _ => rfl)
end Go.Proofs.YtdonlmbhamcjdaaRRR.Pure
