/- Work and rows of reservations: what the program's functions answer, as plain numbers. No conditions. -/
import Derived.Test.YtelihhegkdjdoaaAid
import Derived.Test.YtelihhegkdjdoaaRsv
import Derived.Test.YtelihhegkdjdoaaPx5
import Derived.Test.YtelihhegkdjdoaaPx2
import Derived.Test.YtelihhegkdjdoaaPx4
import Derived.Test.YtelihhegkdjdoaaPx5
import Derived.Test.YtelihhegkdjdoaaPx3
import Derived.Test.YtelihhegkdjdoaaPx5
import Derived.Test.YtelihhegkdjdoaaPx3
import Derived.Test.YtelihhegkdjdoaaPx6
import Derived.Test.YtelihhegkdjdoaaPx2
import Derived.Test.YtelihhegkdjdoaaPx3
import Derived.Test.YtelihhegkdjdoaaPx5
import Derived.Test.YtelihhegkdjdoaaPx3
import Derived.Test.YtelihhegkdjdoaaPx7
import Derived.Test.YtelihhegkdjdoaaPx7
namespace Go.Proofs.Ytelihhegkdjdoaa.Pure
open Go Go.RowKit Tithe Go.Proofs.Ytelihhegkdjdoaa.P Go.Proofs.YtelihhegkdjdoaaW.PrintWords Go.Proofs.YtelihhegkdjdoaaW.PrintLast Go.Proofs.YtelihhegkdjdoaaW.PrintMore

theorem Evt.of_mono {α : Type} {g : Nat → Option α} {r : α} (hm : ∀ k, LeO (g k) (g (k + 1))) {K : Nat} (h : g K = some r) : Evt g r := by
  refine ⟨K, fun k hk => ?_⟩
  obtain ⟨d, rfl⟩ : ∃ d, k = K + d := ⟨k - K, by omega⟩
  clear hk
  induction d with
  | zero => exact h
  | succ d ih => exact hm (K + d) r ih

/-- an error's number -/
def nm (e : Option Int) : Int := e.getD 0
/-- an entry that may be -/
def okp (x : S42) : Prop := 1 ≤ x.f0 ∧ x.f0 ≤ 1048576 ∧ 1 ≤ x.f1 ∧ x.f1 ≤ 1048576 ∧ 1 ≤ x.f2 ∧ x.f2 ≤ x.f0 ∧ 0 ≤ x.f3 ∧ x.f3 ≤ 31
instance (x : S42) : Decidable (okp x) := by unfold okp; infer_instance

theorem valid_eq (x : S42) : demand_valid.f x.f0 x.f1 x.f2 x.f3 = some (decide (okp x)) := by
  unfold demand_valid.f demand_is.f
  by_cases h1 : x.f0 ≥ 1
  · rw [if_pos h1]
    by_cases h2 : x.f0 ≤ 1048576
    · simp only [Option.bind_some, decide_eq_true h2, if_true]
      by_cases h3 : x.f1 ≥ 1
      · rw [if_pos h3]
        by_cases h4 : x.f1 ≤ 1048576
        · simp only [Option.bind_some, decide_eq_true h4, if_true]
          by_cases h5 : x.f2 ≥ 1
          · rw [if_pos h5]
            by_cases h6 : x.f2 ≤ x.f0
            · simp only [Option.bind_some, decide_eq_true h6, if_true]
              by_cases h7 : x.f3 ≥ 0
              · rw [if_pos h7]
                simp only [Option.bind_some]
                congr 1
                by_cases h8 : x.f3 ≤ 31
                · rw [decide_eq_true h8, decide_eq_true (show okp x from ⟨h1, h2, h3, h4, h5, h6, h7, h8⟩)]
                · rw [decide_eq_false h8, decide_eq_false (show ¬ okp x by unfold okp; omega)]
              · rw [if_neg h7]; simp only [Option.bind_some]; rw [decide_eq_false (show ¬ okp x by unfold okp; omega)]
            · simp only [Option.bind_some, decide_eq_false h6, Bool.false_eq_true, if_false]; rw [decide_eq_false (show ¬ okp x by unfold okp; omega)]
          · rw [if_neg h5]; simp only [Option.bind_some, Bool.false_eq_true, if_false]; rw [decide_eq_false (show ¬ okp x by unfold okp; omega)]
        · simp only [Option.bind_some, decide_eq_false h4, Bool.false_eq_true, if_false]; rw [decide_eq_false (show ¬ okp x by unfold okp; omega)]
      · rw [if_neg h3]; simp only [Option.bind_some, Bool.false_eq_true, if_false]; rw [decide_eq_false (show ¬ okp x by unfold okp; omega)]
    · simp only [Option.bind_some, decide_eq_false h2, Bool.false_eq_true, if_false]; rw [decide_eq_false (show ¬ okp x by unfold okp; omega)]
  · rw [if_neg h1]; simp only [Option.bind_some, Bool.false_eq_true, if_false]; rw [decide_eq_false (show ¬ okp x by unfold okp; omega)]

/-- how many periods begin ahead of u -/
def cl (e u : Int) : Int := (u + e - 1) / e
/-- what an entry can ask for -/
def rq (x : S42) (t : Int) : Int := x.f1 * cl x.f0 t

theorem cl_split {e q r : Int} (h0 : 0 ≤ r) (h1 : r < e) : cl e (q * e + r) = if r = 0 then q else q + 1 := by
  unfold cl
  by_cases h : r = 0
  · rw [if_pos h, show q * e + r + e - 1 = q * e + (e - 1) by omega, div_mul_add (by omega) (by omega)]
  · rw [if_neg h, show q * e + r + e - 1 = (q + 1) * e + (r - 1) by rw [Int.add_mul]; omega, div_mul_add (by omega) (by omega)]
theorem cl_nonneg {e u : Int} (he : 1 ≤ e) (hu : 0 ≤ u) : 0 ≤ cl e u := Int.ediv_nonneg (by omega) (by omega)
theorem cl_le {e u : Int} (he : 1 ≤ e) (hu : 0 ≤ u) : cl e u ≤ u := by
  obtain ⟨q, r, rfl, h0, h1⟩ := split u (p := e) (by omega)
  rw [cl_split h0 h1]
  have hq : 0 ≤ q := by
    by_cases hq : 0 ≤ q
    · exact hq
    · have : q * e ≤ -1 * e := Int.mul_le_mul_of_nonneg_right (by omega) (by omega)
      omega
  have : q * 1 ≤ q * e := Int.mul_le_mul_of_nonneg_left he hq
  split <;> omega
theorem cl_mono {e u v : Int} (he : 1 ≤ e) (h : u ≤ v) : cl e u ≤ cl e v := Int.ediv_le_ediv (by omega) (by omega)
theorem cl_zero {e : Int} (he : 1 ≤ e) : cl e 0 = 0 := by
  have := cl_split (e := e) (q := 0) (r := 0) (by omega) (by omega)
  simpa using this
theorem cl_add {e u v : Int} (he : 1 ≤ e) : cl e (u + v) ≤ cl e u + cl e v := by
  obtain ⟨q, r, rfl, h0, h1⟩ := split u (p := e) (by omega)
  obtain ⟨q', r', rfl, h0', h1'⟩ := split v (p := e) (by omega)
  rw [cl_split h0 h1, cl_split h0' h1']
  by_cases h : r + r' < e
  · rw [show q * e + r + (q' * e + r') = (q + q') * e + (r + r') by rw [Int.add_mul]; omega, cl_split (by omega) h]
    repeat' split
    all_goals omega
  · rw [show q * e + r + (q' * e + r') = (q + q' + 1) * e + (r + r' - e) by rw [Int.add_mul, Int.add_mul]; omega, cl_split (by omega) (by omega)]
    repeat' split
    all_goals omega
theorem cl_mult {e u v : Int} (he : 1 ≤ e) (h : u % e = 0) : cl e (u + v) = cl e u + cl e v := by
  obtain ⟨q, r, rfl, h0, h1⟩ := split u (p := e) (by omega)
  obtain ⟨q', r', rfl, h0', h1'⟩ := split v (p := e) (by omega)
  have hr : r = 0 := by
    rw [Int.add_comm, Int.add_mul_emod_self_right, Int.emod_eq_of_lt h0 h1] at h; exact h
  subst hr
  rw [show q * e + 0 + (q' * e + r') = (q + q') * e + r' by rw [Int.add_mul]; omega, cl_split h0' h1', cl_split h0' h1', cl_split (by omega) h1, if_pos rfl]
  split <;> omega
theorem cl_step {e u : Int} (he : 1 ≤ e) : cl e (u + 1) = cl e u + if u % e = 0 then 1 else 0 := by
  obtain ⟨q, r, rfl, h0, h1⟩ := split u (p := e) (by omega)
  have hr : (q * e + r) % e = r := by rw [Int.add_comm, Int.add_mul_emod_self_right, Int.emod_eq_of_lt h0 h1]
  rw [hr, cl_split h0 h1]
  by_cases h : r + 1 < e
  · rw [show q * e + r + 1 = q * e + (r + 1) by omega, cl_split (by omega) h]
    repeat' split
    all_goals omega
  · rw [show q * e + r + 1 = (q + 1) * e + 0 by rw [Int.add_mul]; omega, cl_split (by omega) (by omega)]
    repeat' split
    all_goals omega

theorem rq_bounds {x : S42} (hx : okp x) {t : Int} (h0 : 0 ≤ t) (h1 : t ≤ 2147483648) : 0 ≤ rq x t ∧ rq x t ≤ 2251799813685248 := by
  obtain ⟨a, b, c, d, _⟩ := hx
  have e0 := cl_nonneg a h0
  have e1 := cl_le a h0
  unfold rq
  refine ⟨Int.mul_nonneg (by omega) e0, ?_⟩
  have : x.f1 * cl x.f0 t ≤ 1048576 * 2147483648 := Int.mul_le_mul d (by omega) e0 (by omega)
  omega

theorem requests_ok {x : S42} (hx : okp x) {t : Int} (h0 : 0 ≤ t) (h1 : t ≤ 2147483648) : demand_requests.f x.f0 x.f1 x.f2 x.f3 t = some (rq x t) := by
  have hb := rq_bounds hx h0 h1
  obtain ⟨a, b, c, d, _⟩ := hx
  unfold demand_requests.f
  have e0 := cl_nonneg a h0
  have e1 := cl_le a h0
  rw [if_neg (by omega), w64 (n := t + x.f0) (by omega) (by omega), w64 (n := t + x.f0 - 1) (by omega) (by omega), tdiv_pos (by omega)]
  show some (wrap64 (x.f1 * wrap64 (cl x.f0 t))) = _
  rw [w64 (n := cl x.f0 t) (by omega) (by omega)]
  unfold rq at *
  rw [w64 (by omega) (by omega)]
theorem rd_get {l : List S42} {i : Nat} (h : i < l.length) : rd_T42 l (i : Int) = l[i] := by
  simp [rd_T42, List.getD, List.getElem?_eq_getElem h]

/-- the error of all work -/
def vcode (l : List S42) : Int := if l.length > 8 then 3 else if ∀ x ∈ l, okp x then 0 else 2
def verr (l : List S42) : Option Int := if vcode l = 0 then none else some (vcode l)
theorem vcode_ok {l : List S42} : vcode l = 0 ↔ l.length ≤ 8 ∧ ∀ x ∈ l, okp x := by
  unfold vcode
  by_cases h : l.length > 8
  · rw [if_pos h]; constructor
    · intro h; omega
    · rintro ⟨a, _⟩; omega
  · rw [if_neg h]
    by_cases h2 : ∀ x ∈ l, okp x
    · rw [if_pos h2]; exact ⟨fun _ => ⟨by omega, h2⟩, fun _ => rfl⟩
    · rw [if_neg h2]; exact ⟨fun h => by omega, fun h => absurd h.2 h2⟩

theorem Valid_evt (l : List S42) (hl : l.length ≤ 4398046511104) : Evt (fun k => demand_Valid.f k l) (verr l) := by
  unfold demand_Valid.f
  by_cases h8 : (l.length : Int) > 8
  · refine Evt.ifp h8 (Evt.pure fun _ => ?_)
    have hv : vcode l = 3 := by unfold vcode; rw [if_pos (by omega)]
    unfold verr; rw [hv]; rfl
  · refine Evt.ifn h8 ?_
    have key : ∀ (d i : Nat), i + d = l.length → (∀ x ∈ l.take i, okp x) → Evt (fun k => demand_Valid.l0 k l (l.length : Int) i) (verr l) := by
      intro d
      induction d with
      | zero =>
        intro i hi hall
        refine Evt.succ (Evt.pure fun k => ?_)
        simp only [demand_Valid.l0]
        rw [if_neg (by omega)]
        rw [List.take_of_length_le (by omega)] at hall
        unfold verr; rw [if_pos (vcode_ok.2 ⟨by omega, hall⟩)]
      | succ d ih =>
        intro i hi hall
        refine Evt.succ ?_
        simp only [demand_Valid.l0]
        rw [w1 i (by omega)]
        refine Evt.ifp (by omega) (Evt.ifp (by omega) (Evt.ifp (by omega) (Evt.call (a := decide (okp l[i])) ?_ ?_)))
        · rw [rd_get (by omega)]; exact valid_eq _
        · by_cases hx : okp l[i]
          · refine Evt.ifp (decide_eq_true hx) (ih (i + 1) (by omega) ?_)
            rw [List.take_succ_eq_append_getElem (by omega)]
            intro x hx'
            rcases List.mem_append.1 hx' with h | h
            · exact hall x h
            · rw [List.mem_singleton.1 h]; exact hx
          · refine Evt.ifn (by rw [decide_eq_false hx]; simp) (Evt.pure fun _ => ?_)
            have hv : vcode l = 2 := by
              unfold vcode; rw [if_neg (by omega), if_neg (fun h => hx (h _ (List.getElem_mem _)))]
            unfold verr; rw [hv]; rfl
    exact key l.length 0 (by omega) (by simp)

theorem is_eq (a b c : Int) : demand_is.f a b c = some (decide (b ≤ a ∧ a ≤ c)) := by
  unfold demand_is.f
  by_cases h : a ≥ b
  · rw [if_pos h]
    by_cases h2 : a ≤ c
    · rw [decide_eq_true h2, decide_eq_true (⟨h, h2⟩)]
    · rw [decide_eq_false h2, decide_eq_false (by omega)]
  · rw [if_neg h, decide_eq_false (by omega)]

/-- is k ahead of i? -/
def ab (l : List S42) (k i : Nat) : Bool := decide ((rd_T42 l (k : Int)).f3 < (rd_T42 l (i : Int)).f3 ∨ (rd_T42 l (k : Int)).f3 = (rd_T42 l (i : Int)).f3 ∧ k < i)
/-- the places, those ahead first -/
def ol (l : List S42) : List Nat := srt (fun i k : Nat => decide ((rd_T42 l (i : Int)).f3 < (rd_T42 l (k : Int)).f3)) (List.range l.length)
theorem ordl_eq (l : List S42) : ordl l = (ol l).map fun j : Nat => (j : Int) := rfl
theorem ol_perm (l : List S42) : (ol l).Perm (List.range l.length) := srt_perm _ _
theorem ol_length (l : List S42) : (ol l).length = l.length := by rw [(ol_perm l).length_eq, List.length_range]
theorem ol_mem {l : List S42} {i : Nat} : i ∈ ol l ↔ i < l.length := by rw [(ol_perm l).mem_iff, List.mem_range]
theorem ol_nodup (l : List S42) : (ol l).Nodup := (ol_perm l).nodup_iff.2 List.nodup_range
theorem ol_sorted (l : List S42) : (ol l).Pairwise (fun a b => ab l a b = true) := by
  refine List.Pairwise.imp ?_ (srt_sorted (fun i : Nat => (rd_T42 l (i : Int)).f3) (fun i : Nat => (i : Int)) (List.range l.length) ?_)
  · intro a b h
    simp only [ahd] at h
    unfold ab
    rw [decide_eq_true_eq]; omega
  · refine List.Pairwise.imp ?_ List.pairwise_lt_range
    intro a b h; omega
theorem ab_irr (l : List S42) (i : Nat) : ab l i i = false := by unfold ab; rw [decide_eq_false_iff_not]; omega
theorem ab_asymm {l : List S42} {a b : Nat} (h : ab l a b = true) : ab l b a = false := by
  unfold ab at *; rw [decide_eq_true_eq] at h; rw [decide_eq_false_iff_not]; omega
theorem ol_split {l : List S42} {i : Nat} (hi : i < l.length) : ∃ A B, ol l = A ++ i :: B ∧ (∀ k ∈ A, ab l k i = true) ∧ (∀ k ∈ B, ab l k i = false) ∧ i ∉ A := by
  obtain ⟨A, B, h⟩ := List.append_of_mem (ol_mem.2 hi)
  have hs := ol_sorted l
  have hn := ol_nodup l
  rw [h] at hs hn
  rw [List.pairwise_append] at hs
  rw [List.nodup_append] at hn
  refine ⟨A, B, h, fun k hk => hs.2.2 k hk i (List.mem_cons_self ..), fun k hk => ?_, fun hA => hn.2.2 i hA i (List.mem_cons_self ..) rfl⟩
  have := (List.pairwise_cons.1 hs.2.1).1 k hk
  exact ab_asymm this
theorem filter_split {l : List S42} {i : Nat} {A B : List Nat} (h : ol l = A ++ i :: B) (hA : ∀ k ∈ A, ab l k i = true) (hB : ∀ k ∈ B, ab l k i = false) : (ol l).filter (fun k => ab l k i) = A := by
  rw [h, List.filter_append, List.filter_cons_of_neg (by rw [ab_irr]; simp), List.filter_eq_self.2 (fun k hk => hA k hk), List.filter_eq_nil_iff.2 (fun k hk => by rw [hB k hk]; simp), List.append_nil]
theorem perm_sum {l1 l2 : List Nat} (h : l1.Perm l2) (f : Nat → Int) : (l1.map f).sum = (l2.map f).sum := by
  induction h with
  | nil => rfl
  | cons x _ ih => simp only [List.map_cons, List.sum_cons, ih]
  | swap x y l => simp only [List.map_cons, List.sum_cons]; omega
  | trans _ _ ih1 ih2 => exact ih1.trans ih2
theorem take_split {A B : List Nat} {i : Nat} (h : i ∉ A) : (A ++ i :: B).takeWhile (fun j => j != i) = A := by
  induction A with
  | nil => simp
  | cons a A ih =>
    rw [List.mem_cons, not_or] at h
    rw [List.cons_append, List.takeWhile_cons, if_pos (bne_iff_ne.2 (fun e => h.1 e.symm)), ih h.2]
/-- the entries that are ahead of one -/
def ahl (l : List S42) (i : Nat) : List S42 := ((ol l).takeWhile (fun j => j != i)).map fun j : Nat => rd_T42 l (j : Int)
/-- a sum over those ahead: along the order, or along the places -/
theorem ahl_sum {l : List S42} {i : Nat} (hi : i < l.length) (f : S42 → Int) : ((ahl l i).map f).sum = (((List.range l.length).filter fun k => ab l k i).map fun k : Nat => f (rd_T42 l (k : Int))).sum := by
  obtain ⟨A, B, h, hA, hB, hn⟩ := ol_split hi
  unfold ahl
  rw [h, take_split hn, List.map_map]
  have hp := ((ol_perm l).filter (fun k => ab l k i))
  rw [filter_split h hA hB] at hp
  exact perm_sum hp (fun k : Nat => f (rd_T42 l (k : Int)))

theorem rd_map (L : List Nat) {i : Nat} (h : i < L.length) : rd (L.map fun j : Nat => (j : Int)) (i : Int) = (L[i] : Int) := by
  simp [rd, List.getD, h]

theorem ahead_evt {l : List S42} (hl : l.length ≤ 8) (i : Nat) : Evt (fun k => demand_ahead.f k l (i : Int)) (ahl l i) := by
  unfold demand_ahead.f
  refine Evt.call (a := ordl l) (by unfold demand_order.f; rw [if_pos (by omega)]) ?_
  rw [ordl_eq]
  have hlen : ((ol l).map fun j : Nat => (j : Int)).length = (ol l).length := List.length_map _
  rw [hlen]
  have key : ∀ (d p : Nat) (acc : List S42), p + d = (ol l).length → acc.length ≤ p → Evt (fun k => demand_ahead.l0 k l (i : Int) acc ((ol l).map fun j : Nat => (j : Int)) ((ol l).length : Int) p) (acc ++ (((ol l).drop p).takeWhile (fun j => j != i)).map fun j : Nat => rd_T42 l (j : Int)) := by
    intro d
    induction d with
    | zero =>
      intro p acc hp _
      refine Evt.succ (Evt.pure fun k => ?_)
      simp only [demand_ahead.l0]
      rw [if_neg (by omega), List.drop_of_length_le (by omega)]; simp
    | succ d ih =>
      intro p acc hp ha
      have h8 := ol_length l
      refine Evt.succ ?_
      simp only [demand_ahead.l0]
      rw [w1 p (by omega), hlen, rd_map (ol l) (by omega)]
      have hm : (ol l)[p] < l.length := ol_mem.1 (List.getElem_mem _)
      refine Evt.ifp (by omega) (Evt.ifp (by omega) (Evt.ifp (by omega) ?_))
      rw [List.drop_eq_getElem_cons (show p < (ol l).length by omega), List.takeWhile_cons]
      by_cases he : (ol l)[p] = i
      · rw [if_neg (by simp [he])]
        refine Evt.ifp (by omega) (Evt.pure fun _ => by simp)
      · rw [if_pos (bne_iff_ne.2 he)]
        refine Evt.ifn (by omega) (Evt.ifp (by omega) (Evt.ifp (by omega) (Evt.ifp (by omega) ?_)))
        have := ih (p + 1) (acc ++ [rd_T42 l ((ol l)[p] : Int)]) (by omega) (by simp; omega)
        rw [List.map_cons, show acc ++ rd_T42 l ((ol l)[p] : Int) :: ((ol l).drop (p + 1) |>.takeWhile (fun j => j != i)).map (fun j : Nat => rd_T42 l (j : Int)) = (acc ++ [rd_T42 l ((ol l)[p] : Int)]) ++ ((ol l).drop (p + 1) |>.takeWhile (fun j => j != i)).map (fun j : Nat => rd_T42 l (j : Int)) by simp]
        exact this
  have := key (ol l).length 0 [] (by omega) (by simp)
  simpa [ahl] using this


/-- what all entries of a list can ask for -/
def rs (L : List S42) (t : Int) : Int := (L.map fun x => rq x t).sum
theorem rs_cons (x : S42) (L : List S42) (t : Int) : rs (x :: L) t = rq x t + rs L t := by simp only [rs, List.map_cons, List.sum_cons]
theorem rs_nil (t : Int) : rs [] t = 0 := rfl
theorem rs_append (L M : List S42) (t : Int) : rs (L ++ M) t = rs L t + rs M t := by simp only [rs, List.map_append, List.sum_append]
theorem ahl_ok {l : List S42} (hok : ∀ x ∈ l, okp x) {i : Nat} : ∀ x ∈ ahl l i, okp x := by
  intro x hx
  obtain ⟨j, hj, rfl⟩ := List.mem_map.1 hx
  have hm := ol_mem.1 ((List.takeWhile_sublist _).subset hj)
  rw [rd_get hm]; exact hok _ (List.getElem_mem hm)
theorem ahl_len {l : List S42} {i : Nat} (hi : i < l.length) : (ahl l i).length < l.length := by
  obtain ⟨A, B, h, _, _, hn⟩ := ol_split hi
  have := ol_length l
  unfold ahl
  rw [h, take_split hn, List.length_map]
  rw [h, List.length_append, List.length_cons] at this; omega
theorem rs_bounds {L : List S42} (hok : ∀ x ∈ L, okp x) {t : Int} (h0 : 0 ≤ t) (h1 : t ≤ 2147483648) : 0 ≤ rs L t ∧ rs L t ≤ L.length * 2251799813685248 := by
  induction L with
  | nil => simp [rs_nil]
  | cons x L ih =>
    have hx := rq_bounds (hok x (List.mem_cons_self ..)) h0 h1
    have := ih (fun y hy => hok y (List.mem_cons_of_mem _ hy))
    rw [rs_cons, List.length_cons]; omega

theorem place_evt {l : List S42} (hl : l.length ≤ 4398046511104) (i : Int) : Evt (fun k => demand_place.f k l i) (if vcode l = 0 then (if 0 ≤ i ∧ i < l.length then none else some 1) else some (vcode l)) := by
  unfold demand_place.f
  refine Evt.bind (Valid_evt l hl) ?_
  by_cases hv : vcode l = 0
  · rw [if_pos hv]
    unfold verr
    rw [if_pos hv, w64 (n := (l.length : Int) - 1) (by omega) (by omega)]
    refine Evt.ifp rfl (Evt.call (is_eq _ _ _) ?_)
    by_cases hi : 0 ≤ i ∧ i < l.length
    · rw [if_pos hi, decide_eq_true (by omega)]; exact Evt.ifp rfl (Evt.pure fun _ => rfl)
    · rw [if_neg hi, decide_eq_false (by omega)]; exact Evt.ifn (by simp) (Evt.pure fun _ => rfl)
  · rw [if_neg hv]
    unfold verr
    rw [if_neg hv]
    exact Evt.ifn (by simp) (Evt.pure fun _ => rfl)


theorem mx_max (a b : Int) : mx a b = max a b := by unfold mx; omega

theorem valid_ok {q p : Int} (hq : 1 ≤ q) (hqp : q ≤ p) (hp : p ≤ 1048576) : fixed_Valid.f q p = some none := by
  unfold fixed_Valid.f; rw [if_neg (by omega), if_neg (by omega), if_neg (by omega)]

theorem least_ok {q p t : Int} (hq : 0 ≤ q) (hqp : q ≤ p) (hp0 : 1 ≤ p) (hp : p ≤ 1048576) (h0 : 0 ≤ t) (h1 : t ≤ 1073741824) : supply_least.f q p t = some (lst q p t) := by
  unfold supply_least.f lst fsup
  have e1 : wrap64 (p - q) = p - q := w64 (by omega) (by omega)
  rw [e1]
  by_cases h : t ≤ p - q
  · rw [if_pos h, if_pos h]
  · rw [if_neg h, if_neg (by omega), if_neg h]
    have e2 : wrap64 (t - (p - q)) = t - (p - q) := w64 (by omega) (by omega)
    rw [e2, tdiv_pos (by omega)]
    generalize hu : t - (p - q) = u
    have hk0 : 0 ≤ u / p := Int.ediv_nonneg (by omega) (by omega)
    have hm := Int.mul_ediv_add_emod u p
    have hr0 := Int.emod_nonneg u (b := p) (by omega)
    have hr1 := Int.emod_lt_of_pos u (b := p) (by omega)
    rw [Int.mul_comm] at hm
    have hkp : 0 ≤ u / p * p := Int.mul_nonneg hk0 (by omega)
    have hkq : 0 ≤ u / p * q := Int.mul_nonneg hk0 (by omega)
    have hkqp : u / p * q ≤ u / p * p := Int.mul_le_mul_of_nonneg_left hqp hk0
    have hku : u / p ≤ u / p * p := by have := Int.mul_le_mul_of_nonneg_left hp0 hk0; omega
    have e3 : wrap64 (u / p) = u / p := w64 (by omega) (by omega)
    have e4 : wrap64 (u / p * q) = u / p * q := w64 (by omega) (by omega)
    have e5 : wrap64 (u / p * p) = u / p * p := w64 (by omega) (by omega)
    rw [e3, e4, e5]
    have e6 : wrap64 (u - u / p * p) = u - u / p * p := w64 (by omega) (by omega)
    rw [e6]
    have e7 : wrap64 (u - u / p * p - (p - q)) = u - u / p * p - (p - q) := w64 (by omega) (by omega)
    rw [e7, mx_max, w64 (by omega) (by omega)]

theorem wait_ok {q p n : Int} (hq : 1 ≤ q) (hqp : q ≤ p) (hp : p ≤ 1048576) (h0 : 0 ≤ n) (h1 : n ≤ 1073741824) :
    supply_wait.f q p n = if wt q p n ≤ 1073741824 then some (wt q p n, none) else some (0, some 60) := by
  unfold supply_wait.f
  by_cases hn : n = 0
  · subst hn; rw [if_pos rfl, wt_zero, if_pos (by omega)]
  · rw [if_neg hn, if_neg (by omega)]
    have e0 : wrap64 (p - q) = p - q := w64 (by omega) (by omega)
    have e1 : wrap64 (n - 1) = n - 1 := w64 (by omega) (by omega)
    rw [e0, e1, tdiv_pos (by omega)]
    have hw : wt q p n = 2 * (p - q) + (n - 1) / q * p + n - (n - 1) / q * q := by unfold wt; rw [if_neg hn]
    have hk0 : 0 ≤ (n - 1) / q := Int.ediv_nonneg (by omega) (by omega)
    have hk1 : (n - 1) / q ≤ n - 1 := Int.ediv_le_self _ (by omega)
    generalize (n - 1) / q = k at hw hk0 hk1 ⊢
    have b1 : 0 ≤ k * p := Int.mul_nonneg hk0 (by omega)
    have b2 : k * p ≤ 1073741824 * 1048576 := Int.mul_le_mul (by omega) hp (by omega) (by omega)
    have b3 : 0 ≤ k * q := Int.mul_nonneg hk0 (by omega)
    have b4 : k * q ≤ 1073741824 * 1048576 := Int.mul_le_mul (by omega) (by omega) (by omega) (by omega)
    have e2 : wrap64 (2 * (p - q)) = 2 * (p - q) := w64 (by omega) (by omega)
    have e3 : wrap64 k = k := w64 (by omega) (by omega)
    rw [e2, e3]
    generalize k * p = kp at *
    generalize k * q = kq at *
    have e4 : wrap64 kp = kp := w64 (by omega) (by omega)
    have e5 : wrap64 kq = kq := w64 (by omega) (by omega)
    rw [e4, e5]
    have e6 : wrap64 (2 * (p - q) + kp) = 2 * (p - q) + kp := w64 (by omega) (by omega)
    rw [e6]
    have e7 : wrap64 (2 * (p - q) + kp + n) = 2 * (p - q) + kp + n := w64 (by omega) (by omega)
    rw [e7]
    have e8 : wrap64 (2 * (p - q) + kp + n - kq) = 2 * (p - q) + kp + n - kq := w64 (by omega) (by omega)
    rw [e8, hw]

/-- a reservation as a pair -/
def pr (x : S24) : Int × Int := (x.f0, x.f1)
theorem bad_iff (x : S24) : supply_row.bad x = false ↔ okr (pr x) := by
  unfold supply_row.bad okr pr
  rw [decide_eq_false_iff_not]
  constructor
  · intro h; exact ⟨by omega, by omega, by omega⟩
  · rintro ⟨a, b, c⟩; simp only [] at a b c; omega

theorem row_ok {l : List S24} {a : Int} (hl : l.length ≤ 8) (h : ∀ x ∈ l, okr (pr x)) (h0 : 0 ≤ a) (h1 : a ≤ 1073741824) : supply_row.f l a = some none := by
  unfold supply_row.f
  rw [if_pos (by omega), if_neg (by omega), if_neg, if_neg (by omega)]
  rw [Bool.not_eq_true, List.any_eq_false]
  intro x hx; rw [(bad_iff x).2 (h x hx)]; simp
theorem row_cases {l : List S24} {a : Int} (hl : l.length ≤ 140737488351232) :
    (∃ e, supply_row.f l a = some (some e)) ∨ (supply_row.f l a = some none ∧ l.length ≤ 8 ∧ (∀ x ∈ l, okr (pr x)) ∧ 0 ≤ a ∧ a ≤ 1073741824) := by
  unfold supply_row.f
  rw [if_pos hl]
  by_cases h1 : a < 0 ∨ a > 1073741824
  · rw [if_pos h1]; exact .inl ⟨_, rfl⟩
  · rw [if_neg h1]
    by_cases h2 : l.any supply_row.bad = true
    · rw [if_pos h2]; exact .inl ⟨_, rfl⟩
    · rw [if_neg h2]
      by_cases h3 : (l.length : Int) > 8
      · rw [if_pos h3]; exact .inl ⟨_, rfl⟩
      · rw [if_neg h3]
        refine .inr ⟨rfl, by omega, fun x hx => ?_, by omega, by omega⟩
        rw [Bool.not_eq_true, List.any_eq_false] at h2
        exact (bad_iff x).1 (by simpa using h2 x hx)

theorem rd_get64 {l : List S24} {i : Nat} (h : i < l.length) : rd_T24 l (i : Int) = l[i] := by
  simp [rd_T24, List.getD, List.getElem?_eq_getElem h]

theorem Down_evt {l : List S24} {t : Int} (hl : l.length ≤ 8) (h : ∀ x ∈ l, okr (pr x)) (h0 : 0 ≤ t) (h1 : t ≤ 1073741824) :
    Evt (fun k => supply_Down.f k l t) (dn (l.map pr) t, none) := by
  have key : ∀ (d i : Nat) (u : Int), i + d = l.length → 0 ≤ u → u ≤ 1073741824 → Evt (fun k => supply_Down.l0 k u l (l.length : Int) i) (dn ((l.drop i).map pr) u, none) := by
    intro d
    induction d with
    | zero =>
      intro i u hi hu0 hu1
      refine Evt.succ (Evt.pure fun k => ?_)
      simp only [supply_Down.l0]
      rw [if_neg (by omega), List.drop_of_length_le (by omega)]; rfl
    | succ d ih =>
      intro i u hi hu0 hu1
      refine Evt.succ ?_
      simp only [supply_Down.l0]
      rw [w1 i (by omega)]
      have hx := h _ (List.getElem_mem (show i < l.length by omega))
      have hx' := hx
      obtain ⟨a, b, c⟩ := hx'
      simp only [pr] at a b c
      have q0 := hx.lst_nonneg u
      have q1 := hx.lst_le hu0
      simp only [pr] at q0 q1
      refine Evt.ifp (by omega) (Evt.ifp (by omega) (Evt.ifp (by omega) (Evt.call (a := lst l[i].f0 l[i].f1 u) ?_ ?_)))
      · rw [rd_get64 (by omega)]; exact least_ok (by omega) b (by omega) c hu0 hu1
      · have := ih (i + 1) (lst l[i].f0 l[i].f1 u) (by omega) q0 (by omega)
        rw [List.drop_eq_getElem_cons (show i < l.length by omega)]
        exact this
  have := key l.length 0 t (by omega) h0 h1
  refine Evt.congr (g' := fun k => supply_Down.l0 k t l (l.length : Int) 0) (by simpa using this) ?_
  intro k
  unfold supply_Down.f
  rw [row_ok hl h h0 h1]; rfl

theorem Thr_l0 : ∀ (R : List S24) (n : Int), (∀ x ∈ R, okr (pr x)) → 0 ≤ n → n ≤ 1073741824 →
    (∃ e, supply_Through.l0 R n = some (0, some e)) ∨ (supply_Through.l0 R n = some ((R.map pr).foldl (fun n x => wt x.1 x.2 n) n, none) ∧ (R.map pr).foldl (fun n x => wt x.1 x.2 n) n ≤ 1073741824)
  | [], n, _, _, h1 => .inr ⟨rfl, h1⟩
  | x :: r, n, h, h0, h1 => by
    obtain ⟨a, b, c⟩ := h x (List.mem_cons_self ..)
    simp only [pr] at a b c
    have hw := (h x (List.mem_cons_self ..)).wt_ge h0
    simp only [pr] at hw
    simp only [supply_Through.l0]
    rw [wait_ok a b c h0 h1]
    by_cases hm : wt x.f0 x.f1 n ≤ 1073741824
    · rw [if_pos hm]
      simp only [Option.bind_some, Option.isNone_none, if_true, List.map_cons, List.foldl]
      exact Thr_l0 r _ (fun y hy => h y (List.mem_cons_of_mem _ hy)) (by omega) hm
    · rw [if_neg hm]
      exact .inl ⟨60, rfl⟩

theorem Through_cases {l : List S24} {n : Int} (hl : l.length ≤ 140737488351232) :
    (∃ e, supply_Through.f l n = some (0, some e)) ∨ (supply_Through.f l n = some (thr (l.map pr) n, none) ∧ thr (l.map pr) n ≤ 1073741824 ∧ l.length ≤ 8 ∧ (∀ x ∈ l, okr (pr x)) ∧ 0 ≤ n ∧ n ≤ 1073741824) := by
  unfold supply_Through.f
  rcases row_cases (a := n) hl with ⟨e, he⟩ | ⟨he, h8, hok, h0, h1⟩
  · rw [he]; exact .inl ⟨e, rfl⟩
  · rw [he]
    simp only [Option.bind_some, Option.isNone_none, if_true]
    rcases Thr_l0 l.reverse n (fun x hx => hok x (List.mem_reverse.1 hx)) h0 h1 with ⟨e, h⟩ | ⟨h, hm⟩
    · exact .inl ⟨e, h⟩
    · rw [List.map_reverse, thr_foldl] at h hm
      exact .inr ⟨h, hm, h8, hok, h0, h1⟩


instance (x : Int × Int) : Decidable (okr x) := by unfold okr; infer_instance
/-- the error of a row of reservations and a number -/
def rcode (l : List S24) (t : Int) : Int := if t < 0 ∨ t > 1073741824 then 1 else if ∀ x ∈ l, okr (pr x) then (if l.length > 8 then 3 else 0) else 2
theorem row_code {l : List S24} (hl : l.length ≤ 140737488351232) (t : Int) : supply_row.f l t = some (if rcode l t = 0 then none else some (rcode l t)) := by
  unfold supply_row.f rcode
  rw [if_pos hl]
  by_cases h1 : t < 0 ∨ t > 1073741824
  · rw [if_pos h1, if_pos h1]; rfl
  · rw [if_neg h1, if_neg h1]
    by_cases h2 : l.any supply_row.bad = true
    · rw [if_pos h2]
      have : ¬ ∀ x ∈ l, okr (pr x) := by
        obtain ⟨x, hx, hb⟩ := List.any_eq_true.1 h2
        intro h
        rw [(bad_iff x).2 (h x hx)] at hb; simp at hb
      rw [if_neg this]; rfl
    · rw [if_neg h2]
      have : ∀ x ∈ l, okr (pr x) := by
        rw [Bool.not_eq_true, List.any_eq_false] at h2
        intro x hx
        exact (bad_iff x).1 (by simpa using h2 x hx)
      rw [if_pos this]
      by_cases h3 : (l.length : Int) > 8
      · rw [if_pos h3, if_pos (show l.length > 8 by omega)]; rfl
      · rw [if_neg h3, if_neg (show ¬ l.length > 8 by omega)]; rfl
theorem rcode_ok {l : List S24} {t : Int} : rcode l t = 0 ↔ (l.length ≤ 8 ∧ (∀ x ∈ l, okr (pr x)) ∧ 0 ≤ t ∧ t ≤ 1073741824) := by
  unfold rcode
  by_cases h1 : t < 0 ∨ t > 1073741824
  · rw [if_pos h1]; constructor
    · intro h; omega
    · rintro ⟨_, _, a, b⟩; omega
  · rw [if_neg h1]
    by_cases h2 : ∀ x ∈ l, okr (pr x)
    · rw [if_pos h2]
      by_cases h3 : l.length > 8
      · rw [if_pos h3]; constructor
        · intro h; omega
        · rintro ⟨a, _⟩; omega
      · rw [if_neg h3]; exact ⟨fun _ => ⟨by omega, h2, by omega, by omega⟩, fun _ => rfl⟩
    · rw [if_neg h2]; constructor
      · intro h; omega
      · rintro ⟨_, h, _⟩; exact absurd h h2
/-- the error of work and a row of reservations -/
def fc (l : List S42) (m : List S24) : Int := if vcode l = 0 then rcode m 0 else vcode l
theorem check_evt {l : List S42} {m : List S24} (hl : l.length ≤ 4398046511104) (hm : m.length ≤ 140737488351232) : Evt (fun k => response_check.f k l m) (if fc l m = 0 then none else some (fc l m)) := by
  unfold response_check.f fc
  refine Evt.bind (Valid_evt l hl) ?_
  by_cases hv : vcode l = 0
  · rw [if_pos hv]
    unfold verr
    rw [if_pos hv]
    refine Evt.ifp rfl ?_
    by_cases hc : rcode m 0 = 0
    · obtain ⟨h8, hok, h0, h1⟩ := rcode_ok.1 hc
      rw [if_pos hc]
      exact Evt.bind (Down_evt h8 hok h0 h1) (Evt.pure fun _ => rfl)
    · rw [if_neg hc]
      refine Evt.bind (a := (0, some (rcode m 0))) ?_ (Evt.pure fun _ => rfl)
      unfold supply_Down.f
      refine Evt.call (row_code hm 0) ?_
      rw [if_neg hc]
      exact Evt.ifn (by simp) (Evt.pure fun _ => rfl)
  · rw [if_neg hv, if_neg hv]
    unfold verr
    rw [if_neg hv]
    exact Evt.ifn (by simp) (Evt.pure fun _ => rfl)
theorem fc_ok {l : List S42} {m : List S24} (h : fc l m = 0) : l.length ≤ 8 ∧ ∀ x ∈ l, okp x := by
  unfold fc at h
  by_cases hv : vcode l = 0
  · exact vcode_ok.1 hv
  · rw [if_neg hv] at h; exact absurd h hv

/-- what a level asks for -/
def lev (l : List S42) (j : Nat) (t : Int) : Int := (rd_T42 l (j : Int)).f1 + rs (ahl l j) t
theorem Level_ok {l : List S42} (h8 : l.length ≤ 8) (hok : ∀ x ∈ l, okp x) {j : Nat} (hj : j < l.length) {t : Int} (h0 : 0 ≤ t) (h1 : t ≤ 1073741824) :
    Evt (fun k => demand_Level.f k l (j : Int) t) (lev l j t, none) ∧ True := by
  have hv : vcode l = 0 := vcode_ok.2 ⟨h8, hok⟩
  have hp := place_evt (l := l) (by omega) (j : Int)
  rw [if_pos hv, if_pos (by omega)] at hp
  have hi : 0 ≤ (j : Int) ∧ (j : Int) < l.length := by omega
  have ht : 0 ≤ t ∧ t ≤ 1073741824 := ⟨h0, h1⟩
  have hx := hok _ (List.getElem_mem hj)
  have hx' := hx
  obtain ⟨_, _, c1, c2, _⟩ := hx'
  rw [← rd_get hj] at c1 c2
  unfold lev
  refine ⟨?_, trivial⟩
  · unfold demand_Level.f
    refine Evt.bind hp (Evt.ifp rfl (Evt.call (is_eq t 0 1073741824) ?_))
    rw [decide_eq_true ht]
    refine Evt.ifp rfl (Evt.ifp (by omega) (Evt.ifp (by omega) (Evt.bind (ahead_evt h8 j) ?_)))
    have hLok := ahl_ok hok (i := j)
    have hLl := ahl_len hj
    generalize ahl l j = L at *
    have key : ∀ (d p : Nat) (acc : Int), p + d = L.length → 0 ≤ acc → acc ≤ (p + 1) * 2251799813685248 → Evt (fun k => demand_Level.l0 k t acc L (L.length : Int) p) (acc + rs (L.drop p) t, none) := by
      intro d
      induction d with
      | zero =>
        intro p acc hp a0 a1
        refine Evt.succ (Evt.pure fun k => ?_)
        simp only [demand_Level.l0]
        rw [if_neg (by omega), List.drop_of_length_le (by omega), rs_nil, Int.add_zero]
      | succ d ih =>
        intro p acc hp a0 a1
        have hy := hLok _ (List.getElem_mem (show p < L.length by omega))
        have hb := rq_bounds hy ht.1 (by omega)
        refine Evt.succ ?_
        simp only [demand_Level.l0]
        rw [w1 p (by omega)]
        refine Evt.ifp (by omega) (Evt.ifp (by omega) (Evt.ifp (by omega) (Evt.call (a := rq L[p] t) ?_ ?_)))
        · rw [rd_get (by omega)]; exact requests_ok hy ht.1 (by omega)
        · rw [w64 (n := acc + rq L[p] t) (by omega) (by omega), List.drop_eq_getElem_cons (by omega), rs_cons, ← Int.add_assoc]
          exact ih (p + 1) _ (by omega) (by omega) (by omega)
    exact key L.length 0 _ (by omega) (by omega) (by omega)
theorem rs_mono {L : List S42} (hok : ∀ x ∈ L, okp x) {s t : Int} (h : s ≤ t) : rs L s ≤ rs L t := by
  induction L with
  | nil => simp [rs_nil]
  | cons x L ih =>
    rw [rs_cons, rs_cons]
    have a := ih (fun y hy => hok y (List.mem_cons_of_mem _ hy))
    obtain ⟨e1, _, e2, _⟩ := hok x (List.mem_cons_self ..)
    have b := cl_mono e1 h
    have c : rq x s ≤ rq x t := Int.mul_le_mul_of_nonneg_left b (by omega)
    omega
theorem lev_mono {l : List S42} (hok : ∀ x ∈ l, okp x) (j : Nat) {s t : Int} (h : s ≤ t) : lev l j s ≤ lev l j t := by
  have := rs_mono (ahl_ok hok (i := j)) h
  unfold lev; omega
theorem lev_pos {l : List S42} (hok : ∀ x ∈ l, okp x) {j : Nat} (hj : j < l.length) {t : Int} (h0 : 0 ≤ t) (h1 : t ≤ 1073741824) : 1 ≤ lev l j t ∧ (rd_T42 l (j : Int)).f1 ≤ lev l j t := by
  have a := rs_bounds (ahl_ok hok (i := j)) h0 (show t ≤ 2147483648 by omega)
  obtain ⟨_, _, c, _⟩ := hok _ (List.getElem_mem hj)
  rw [← rd_get hj] at c
  unfold lev; omega

theorem fold_ge : ∀ (R : List (Int × Int)) (n : Int), (∀ x ∈ R, okr x) → 0 ≤ n → n ≤ R.foldl (fun n x => wt x.1 x.2 n) n
  | [], n, _, _ => Int.le_refl _
  | x :: r, n, h, h0 => by
    have a := (h x (List.mem_cons_self ..)).wt_ge h0
    have b := fold_ge r (wt x.1 x.2 n) (fun y hy => h y (List.mem_cons_of_mem _ hy)) (by omega)
    simp only [List.foldl]; omega
theorem Thr_err : ∀ (R : List S24) (n : Int), (∀ x ∈ R, okr (pr x)) → 0 ≤ n → n ≤ 1073741824 → ∀ e, supply_Through.l0 R n = some (0, some e) → 1073741824 < (R.map pr).foldl (fun n x => wt x.1 x.2 n) n
  | [], n, _, _, _, e, he => by simp [supply_Through.l0] at he
  | x :: r, n, h, h0, h1, e, he => by
    obtain ⟨a, b, c⟩ := h x (List.mem_cons_self ..)
    simp only [pr] at a b c
    have hw := (h x (List.mem_cons_self ..)).wt_ge h0
    simp only [pr] at hw
    simp only [supply_Through.l0] at he
    rw [wait_ok a b c h0 h1] at he
    by_cases hm : wt x.f0 x.f1 n ≤ 1073741824
    · rw [if_pos hm] at he
      simp only [Option.bind_some, Option.isNone_none, if_true] at he
      exact Thr_err r (wt x.f0 x.f1 n) (fun y hy => h y (List.mem_cons_of_mem _ hy)) (by omega) hm e he
    · have := fold_ge (r.map pr) (wt x.f0 x.f1 n) (fun y hy => by obtain ⟨z, hz, rfl⟩ := List.mem_map.1 hy; exact h z (List.mem_cons_of_mem _ hz)) (by omega)
      show 1073741824 < (r.map pr).foldl (fun n x => wt x.1 x.2 n) (wt x.f0 x.f1 n)
      omega
theorem oks {m : List S24} (hm : ∀ x ∈ m, okr (pr x)) : ∀ x ∈ m.map pr, okr x := by
  intro y hy; obtain ⟨z, hz, rfl⟩ := List.mem_map.1 hy; exact hm z hz
theorem Through_ok {m : List S24} (h8 : m.length ≤ 8) (hm : ∀ x ∈ m, okr (pr x)) {n : Int} (hn : 1 ≤ n) :
    (∃ e, supply_Through.f m n = some (0, some e) ∧ ∀ t : Int, 0 ≤ t → t ≤ 1048576 → dn (m.map pr) t < n) ∨ supply_Through.f m n = some (thr (m.map pr) n, none) := by
  unfold supply_Through.f
  rw [row_code (by omega)]
  by_cases hc : n ≤ 1073741824
  · rw [if_pos (rcode_ok.2 ⟨h8, hm, by omega, hc⟩)]
    simp only [Option.bind_some, Option.isNone_none, if_true]
    rcases Thr_l0 m.reverse n (fun x hx => hm x (List.mem_reverse.1 hx)) (by omega) hc with ⟨e, h⟩ | ⟨h, _⟩
    · refine .inl ⟨e, h, ?_⟩
      have := Thr_err m.reverse n (fun x hx => hm x (List.mem_reverse.1 hx)) (by omega) hc e h
      rw [List.map_reverse, thr_foldl] at this
      intro t t0 t1
      have := (not_congr (thr_iff (oks hm) hn t)).2 (by omega)
      omega
    · rw [List.map_reverse, thr_foldl] at h
      exact .inr h
  · have hcc : rcode m n ≠ 0 := fun h => hc (rcode_ok.1 h).2.2.2
    rw [if_neg hcc]
    refine .inl ⟨rcode m n, rfl, ?_⟩
    intro t t0 t1
    have := dn_le (oks hm) t0
    omega

/-- an entry is in time -/
def fitAt (l : List S42) (m : List S24) (j : Nat) : Prop := ∃ t : Int, 1 ≤ t ∧ t ≤ (rd_T42 l (j : Int)).f2 ∧ lev l j t ≤ dn (m.map pr) t
theorem time_ok {l : List S42} {m : List S24} (h8 : l.length ≤ 8) (hok : ∀ x ∈ l, okp x) (hm8 : m.length ≤ 8) (hm : ∀ x ∈ m, okr (pr x)) {j : Nat} (hj : j < l.length) :
    (∃ v : Int, Evt (fun k => response_time.f k l (j : Int) m) (v, true) ∧ 1 ≤ v ∧ v ≤ (rd_T42 l (j : Int)).f2 ∧ lev l j v ≤ dn (m.map pr) v ∧ ∀ s : Int, 1 ≤ s → s < v → dn (m.map pr) s < lev l j s) ∨
    (Evt (fun k => response_time.f k l (j : Int) m) (0, false) ∧ ∀ s : Int, 1 ≤ s → s ≤ (rd_T42 l (j : Int)).f2 → dn (m.map pr) s < lev l j s) := by
  have hx := hok _ (List.getElem_mem hj)
  rw [← rd_get hj] at hx
  obtain ⟨a1, a2, _, _, a3, a4, _⟩ := hx
  have main : ∀ (d : Nat) (t : Int), t + d = (rd_T42 l (j : Int)).f2 + 1 → 1 ≤ t → (∀ s : Int, 1 ≤ s → s < t → dn (m.map pr) s < lev l j s) →
      (∃ v : Int, Evt (fun k => response_time.l0 k l (j : Int) m t) (v, true) ∧ 1 ≤ v ∧ v ≤ (rd_T42 l (j : Int)).f2 ∧ lev l j v ≤ dn (m.map pr) v ∧ ∀ s : Int, 1 ≤ s → s < v → dn (m.map pr) s < lev l j s) ∨
      (Evt (fun k => response_time.l0 k l (j : Int) m t) (0, false) ∧ ∀ s : Int, 1 ≤ s → s ≤ (rd_T42 l (j : Int)).f2 → dn (m.map pr) s < lev l j s) := by
    intro d
    induction d using Nat.strongRecOn with
    | _ d ih =>
      intro t hd t0 hyp
      have late : ∀ u : Int, u > (rd_T42 l (j : Int)).f2 → Evt (fun k => response_time.l0 k l (j : Int) m u) (0, false) := by
        intro u hu
        refine Evt.succ ?_
        simp only [response_time.l0]
        exact Evt.ifp (by omega) (Evt.ifp (by omega) (Evt.ifp hu (Evt.pure fun _ => rfl)))
      by_cases hgt : t > (rd_T42 l (j : Int)).f2
      · exact .inr ⟨late t hgt, fun s s0 s1 => hyp s s0 (by omega)⟩
      · have p1 := (Level_ok h8 hok hj (t := t) (by omega) (by omega)).1
        have p2 := Down_evt (t := t) hm8 hm (by omega) (by omega)
        have hL := (lev_pos hok hj (t := t) (by omega) (by omega)).1
        have go1 : ∀ r, Evt (fun k => if lev l j t ≤ dn (m.map pr) t then some (t, true) else (supply_Through.f m (lev l j t)).bind fun bt => if bt.2.isNone = true then (if bt.1 > t then response_time.l0 k l (j : Int) m bt.1 else response_time.l0 k l (j : Int) m (wrap64 (t + 1))) else some (0, false)) r → Evt (fun k => response_time.l0 k l (j : Int) m t) r := by
          intro r h
          refine Evt.succ ?_
          simp only [response_time.l0]
          exact Evt.ifp (by omega) (Evt.ifp (by omega) (Evt.ifn hgt (Evt.bind p1 (Evt.bind p2 h))))
        by_cases hle : lev l j t ≤ dn (m.map pr) t
        · exact .inl ⟨t, go1 _ (Evt.ifp hle (Evt.pure fun _ => rfl)), t0, by omega, hle, hyp⟩
        · rcases Through_ok hm8 hm hL with ⟨e, q1, q2⟩ | q1
          · refine .inr ⟨go1 _ (Evt.ifn hle (Evt.call q1 (Evt.ifn (by simp) (Evt.pure fun _ => rfl)))), fun s s0 s1 => ?_⟩
            by_cases hst : s < t
            · exact hyp s s0 hst
            · have u1 := q2 s (by omega) (by omega)
              have u2 := lev_mono hok j (show t ≤ s by omega)
              omega
          · have hxt : t < thr (m.map pr) (lev l j t) := by
              have := (not_congr (thr_iff (oks hm) hL t)).1 hle
              omega
            have skip : ∀ s : Int, 1 ≤ s → s < thr (m.map pr) (lev l j t) → dn (m.map pr) s < lev l j s := by
              intro s s0 s1
              by_cases hst : s < t
              · exact hyp s s0 hst
              · have u1 := (not_congr (thr_iff (oks hm) hL s)).2 (by omega)
                have u2 := lev_mono hok j (show t ≤ s by omega)
                omega
            by_cases hxd : thr (m.map pr) (lev l j t) > (rd_T42 l (j : Int)).f2
            · exact .inr ⟨go1 _ (Evt.ifn hle (Evt.call q1 (Evt.ifp rfl (Evt.ifp hxt (late _ hxd))))), fun s s0 s1 => skip s s0 (by omega)⟩
            · rcases ih ((rd_T42 l (j : Int)).f2 + 1 - thr (m.map pr) (lev l j t)).toNat (by omega) _ (by omega) (by omega) skip with ⟨v, y1, y2⟩ | ⟨y1, y2⟩
              · exact .inl ⟨v, go1 _ (Evt.ifn hle (Evt.call q1 (Evt.ifp rfl (Evt.ifp hxt y1)))), y2⟩
              · exact .inr ⟨go1 _ (Evt.ifn hle (Evt.call q1 (Evt.ifp rfl (Evt.ifp hxt y1)))), y2⟩
  exact main (rd_T42 l (j : Int)).f2.toNat 1 (by omega) (by omega) (fun s s0 s1 => absurd s1 (by omega))
theorem all_ok {l : List S42} {m : List S24} (h8 : l.length ≤ 8) (hok : ∀ x ∈ l, okp x) (hm8 : m.length ≤ 8) (hm : ∀ x ∈ m, okr (pr x)) :
    ∃ L b, Evt (fun k => response_all.f k l m) (L, b) ∧ (b = true ↔ ∀ j : Nat, j < l.length → fitAt l m j) := by
  have key : ∀ (d i : Nat) (acc : List Int), i + d = l.length → acc.length = i → (∀ j : Nat, j < i → fitAt l m j) → ∃ L b, Evt (fun k => response_all.l0 k l m acc (l.length : Int) i) (L, b) ∧ (b = true ↔ ∀ j : Nat, j < l.length → fitAt l m j) := by
    intro d
    induction d with
    | zero =>
      intro i acc hi ha hf
      refine ⟨acc, true, Evt.succ (Evt.pure fun k => ?_), fun _ j hj => hf j (by omega), fun _ => rfl⟩
      simp only [response_all.l0]; rw [if_neg (by omega)]
    | succ d ih =>
      intro i acc hi ha hf
      rcases time_ok h8 hok hm8 hm (j := i) (by omega) with ⟨v, q1, q2, q3, q4, _⟩ | ⟨q1, q2⟩
      · obtain ⟨L, b, y1, y2⟩ := ih (i + 1) (acc ++ [v]) (by omega) (by simp; omega) (fun j hj => by
          by_cases e : j = i
          · subst e; exact ⟨v, q2, q3, q4⟩
          · exact hf j (by omega))
        refine ⟨L, b, Evt.succ ?_, y2⟩
        simp only [response_all.l0]
        rw [w1 i (by omega)]
        exact Evt.ifp (by omega) (Evt.bind q1 (Evt.ifp rfl (Evt.ifp (by omega) y1)))
      · refine ⟨[], false, Evt.succ ?_, fun h => absurd h (by simp), fun h => ?_⟩
        · simp only [response_all.l0]
          exact Evt.ifp (by omega) (Evt.bind q1 (Evt.ifn (by simp) (Evt.pure fun _ => rfl)))
        · obtain ⟨t, t0, t1, t2⟩ := h i (by omega)
          have := q2 t t0 t1
          omega
  obtain ⟨L, b, h1, h2⟩ := key l.length 0 [] (by omega) rfl (fun j hj => absurd hj (by omega))
  exact ⟨L, b, h1, h2⟩

theorem fc_row {l : List S42} {m : List S24} (h : fc l m = 0) : m.length ≤ 8 ∧ ∀ x ∈ m, okr (pr x) := by
  have hv := (fc_ok h)
  unfold fc at h
  rw [if_pos (vcode_ok.2 hv)] at h
  have := rcode_ok.1 h
  exact ⟨this.1, this.2.1⟩
theorem Fits_ok {l : List S42} {m : List S24} (h : fc l m = 0) : ∃ b : Bool, Evt (fun k => response_Fits.f k l m) (if b = true then none else some 220) ∧ (b = true ↔ ∀ j : Nat, j < l.length → fitAt l m j) := by
  obtain ⟨h8, hok⟩ := fc_ok h
  obtain ⟨hm8, hm⟩ := fc_row h
  have hc := check_evt (l := l) (m := m) (by omega) (by omega)
  rw [if_pos h] at hc
  obtain ⟨L, b, q1, q2⟩ := all_ok h8 hok hm8 hm
  refine ⟨b, ?_, q2⟩
  unfold response_Fits.f response_All.f
  cases b with
  | true => exact Evt.bind (Evt.bind hc (Evt.ifp rfl (Evt.bind q1 (Evt.ifp rfl (Evt.pure fun _ => rfl))))) (Evt.pure fun _ => rfl)
  | false => exact Evt.bind (Evt.bind hc (Evt.ifp rfl (Evt.bind q1 (Evt.ifn (by simp) (Evt.pure fun _ => rfl))))) (Evt.pure fun _ => rfl)
end Go.Proofs.Ytelihhegkdjdoaa.Pure
