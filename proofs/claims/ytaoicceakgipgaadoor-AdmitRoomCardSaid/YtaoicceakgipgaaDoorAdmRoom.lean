/- What Room tells of a book of claims, and what Add does at the last slot then. No conditions. -/
import Derived.Test.YtaoicceakgipgaaDoorAdmRel
import Derived.Test.YtaoicceakgipgaaDoorQx4
import Derived.Test.YtaoicceakgipgaaDoorQx4
namespace Go.Proofs.YtaoicceakgipgaaDoor.Pure
open Go Go.RowKit Tithe Go.Proofs.YtaoicceakgipgaaDoor.Q Go.Proofs.YtaoicceakgipgaaDoorW.PrintWords Go.Proofs.YtaoicceakgipgaaDoorW.PrintLast Go.Proofs.YtaoicceakgipgaaDoorW.PrintMore
set_option linter.unusedVariables false
set_option linter.unusedSimpArgs false
theorem share_le' {q p b : Int} (hp : 1 ≤ p) : (q * 1048576 + p - 1) / p ≤ b ↔ q ≤ b * p / 1048576 := by
  rw [Int.le_ediv_iff_mul_le (by omega)]
  constructor
  · intro h
    have := Int.lt_mul_of_ediv_lt (a := q * 1048576 + p - 1) (b := b + 1) (c := p) (by omega) (by omega)
    have e : (b + 1) * p = b * p + p := by rw [Int.add_mul, Int.one_mul]
    omega
  · intro h
    have := Int.ediv_lt_of_lt_mul (a := q * 1048576 + p - 1) (b := b + 1) (c := p) (by omega) (by
      have e : (b + 1) * p = b * p + p := by rw [Int.add_mul, Int.one_mul]
      omega)
    omega
theorem most_ok' {u p : Int} (h0 : 0 ≤ u) (h1 : u ≤ 1048576) (hp : 1 ≤ p) (hp2 : p ≤ 1048576) : Evt (fun k => fixed_Most.f k u p) (u * p / 1048576, none) := by
  have hm : u * p ≤ 1048576 * 1048576 := Int.mul_le_mul h1 hp2 (by omega) (by omega)
  have hm0 : 0 ≤ u * p := Int.mul_nonneg h0 (by omega)
  have e : wrap64 (Int.tdiv (wrap64 (u * p)) 1048576) = u * p / 1048576 := by
    generalize u * p = m at *
    rw [w64 (n := m) (by omega) (by omega), tdiv_pos hm0, w64 (by omega) (by omega)]
  unfold fixed_Most.f
  refine Evt.ifn (by omega) (Evt.succ ?_)
  simp only [fixed_Most.j0]
  rw [e]
  exact Evt.ifn (by simpa using h1) (Evt.ifn (by omega) (Evt.ifn (by omega) (Evt.pure fun _ => rfl)))
/-- nobody at the last slot -/
def RoomInv (B : List S28) : Prop := OkB B ∧ tot (bk B) ≤ 1048576 ∧ bkAt B 63 = false
/-- what is left -/
def fre (B : List S28) : Int := 1048576 - tot (bk B)
theorem fre_b {B : List S28} (h : RoomInv B) : 0 ≤ fre B ∧ fre B ≤ 1048576 := by
  have := tot_b (bk B) (fun c hc => (in_bk h.1 hc).2.2)
  have := h.2.1
  unfold fre; omega
theorem room_new : RoomInv bkNew := ⟨new_inv.1, by have := new_inv.2; rw [← this.1]; exact this.2, by decide⟩
theorem room_add {B : List S28} (h : RoomInv B) {s n : Int} (h0 : 0 ≤ s) (h1 : s < 60) : RoomInv (bkAdd B s n).2 := by
  obtain ⟨l', e, B', _, h2, h3⟩ := Add_rel (B := B) (l := bk B) ⟨h.1, rfl, h.2.1⟩ s n
  have hB : (bkAdd B s n).2 = B' := by rw [h2]
  rw [hB]
  refine ⟨h3.1, by have := h3.2; rw [← this.1]; exact this.2, ?_⟩
  rw [← hB]
  unfold bkAdd
  split
  · exact h.2.2
  split
  · exact h.2.2
  split
  · exact h.2.2
  split
  · exact h.2.2
  split
  · exact h.2.2
  · have hg : bkGet (bkSet B s ⟨s, n, 0, false⟩) 63 = bkGet B 63 := by
      unfold bkGet bkSet
      rw [List.getD_eq_getElem?_getD, List.getElem?_set_ne (by omega), ← List.getD_eq_getElem?_getD]
    have := h.2.2
    rw [at_eq (by decide) (by decide)] at this ⊢
    rw [hg]; exact this
theorem room_val {B : List S28} (h : RoomInv B) {p : Int} (hp : 1 ≤ p) (hp2 : p ≤ 1048576) : ∃ k, admit_Book_Room.f k B p = some (fre B * p / 1048576, B) := by
  have hb := fre_b h
  have hw : wrap64 (1048576 - tot (bk B)) = fre B := w64 (by unfold fre at hb; omega) (by unfold fre at hb; omega)
  have hf : admit_Book_Free.f B = some (fre B, B) := by
    unfold admit_Book_Free.f bk_Sum.f
    simp only [Option.bind_some]
    rw [bkSum_eq h.1, hw]
  refine Evt.ex ?_
  unfold admit_Book_Room.f
  exact Evt.call hf (Evt.bind (most_ok' hb.1 hb.2 hp hp2) (Evt.ifp rfl (Evt.pure fun _ => rfl)))
/-- a share of q ticks in p -/
def ups (q p : Int) : Int := (q * 1048576 + p - 1) / p
theorem ups_b {q p : Int} (h0 : 1 ≤ q) (h1 : q ≤ p) (h2 : p ≤ 1048576) : 1 ≤ ups q p ∧ ups q p ≤ 1048576 := by
  unfold ups
  have := Int.ediv_lt_of_lt_mul (a := q * 1048576 + p - 1) (b := 1048577) (c := p) (by omega) (by omega)
  have h3 : 1 ≤ (q * 1048576 + p - 1) / p := by rw [Int.le_ediv_iff_mul_le (by omega)]; omega
  omega
theorem up_val {q p : Int} (h0 : 1 ≤ q) (h1 : q ≤ p) (h2 : p ≤ 1048576) : tithelaw08_up.f q p = some (ups q p) := by
  have hb := ups_b h0 h1 h2
  unfold ups at hb
  unfold tithelaw08_up.f ups
  rw [if_neg (by omega), w64 (n := q * 1048576) (by omega) (by omega), w64 (n := q * 1048576 + p) (by omega) (by omega), w64 (n := q * 1048576 + p - 1) (by omega) (by omega), tdiv_pos (by omega), w64 (by omega) (by omega)]
theorem room_q {B : List S28} (h : RoomInv B) {p : Int} (hp : 1 ≤ p) (hp2 : p ≤ 1048576) : 0 ≤ fre B * p / 1048576 ∧ fre B * p / 1048576 ≤ p := by
  have hb := fre_b h
  have h1 : fre B * p ≤ 1048576 * p := Int.mul_le_mul_of_nonneg_right hb.2 (by omega)
  have h2 : 0 ≤ fre B * p := Int.mul_nonneg hb.1 (by omega)
  generalize fre B * p = m at *
  omega
theorem add63 {B : List S28} (h : RoomInv B) {x : Int} (h0 : 1 ≤ x) (h1 : x ≤ 1048576) : ∃ B', bkAdd B 63 x = (if x ≤ fre B then none else some 80, B') := by
  have hb := fre_b h
  have hs : shareB x = true := by unfold shareB; rw [decide_eq_true (show x ≥ 1 from h0), decide_eq_true h1]; rfl
  have hw : wrap64 (bkSum B + x) = tot (bk B) + x := by
    rw [bkSum_eq h.1]; exact w64 (by unfold fre at hb; omega) (by unfold fre at hb; omega)
  unfold bkAdd
  rw [if_neg (by decide), if_neg (by decide), if_neg (by rw [h.2.2]; decide), if_neg (by rw [hs]; decide), hw]
  by_cases hc : x ≤ fre B
  · rw [if_pos hc, if_neg (by unfold fre at hc; omega)]
    exact ⟨_, rfl⟩
  · rw [if_neg hc, if_pos (by unfold fre at hc; omega)]
    exact ⟨_, rfl⟩
theorem add63_ok {B : List S28} (h : RoomInv B) {p : Int} (hp : 1 ≤ p) (hp2 : p ≤ 1048576) (hq : 0 < fre B * p / 1048576) : ∃ B', bkAdd B 63 (ups (fre B * p / 1048576) p) = (none, B') := by
  have hr := room_q h hp hp2
  obtain ⟨b0, b1⟩ := ups_b (q := fre B * p / 1048576) (by omega) hr.2 hp2
  obtain ⟨B', hB⟩ := add63 h b0 b1
  have : ups (fre B * p / 1048576) p ≤ fre B := (share_le' hp).2 (Int.le_refl _)
  rw [if_pos this] at hB
  exact ⟨B', hB⟩
theorem add63_no {B : List S28} (h : RoomInv B) {p : Int} (hp : 1 ≤ p) (hp2 : p ≤ 1048576) (hq : fre B * p / 1048576 < p) : ∃ B', bkAdd B 63 (ups (fre B * p / 1048576 + 1) p) = (some 80, B') := by
  have hr := room_q h hp hp2
  obtain ⟨b0, b1⟩ := ups_b (q := fre B * p / 1048576 + 1) (by omega) (by omega) hp2
  obtain ⟨B', hB⟩ := add63 h b0 b1
  have : ¬ ups (fre B * p / 1048576 + 1) p ≤ fre B := fun hc => by
    have := (share_le' hp).1 hc
    omega
  rw [if_neg this] at hB
  exact ⟨B', hB⟩
/-- a slot and a share, as the law reckons them -/
theorem slot60 (a : Int) : 0 ≤ Int.tmod (wrap64 (Int.tmod a 60 + 60)) 60 ∧ Int.tmod (wrap64 (Int.tmod a 60 + 60)) 60 < 60 := pmod (by decide) (by decide)
theorem per_b (a : Int) : 1 ≤ wrap64 (Int.tmod (wrap64 (Int.tmod a 1048576 + 1048576)) 1048576 + 1) ∧ wrap64 (Int.tmod (wrap64 (Int.tmod a 1048576 + 1048576)) 1048576 + 1) ≤ 1048576 := by
  have := pmod (a := a) (c := 1048576) (by decide) (by decide)
  rw [w64 (by omega) (by omega)]; omega
end Go.Proofs.YtaoicceakgipgaaDoor.Pure
