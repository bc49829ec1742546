/- Rows of reservations (pairs of budget and period): what comes down a row, and how long one waits for it. Plain numbers. No conditions. -/
import Derived.Test.YtffckkjaeekanaaLst
namespace Tithe

/-- a reservation that may be -/
def okr (x : Int × Int) : Prop := 1 ≤ x.1 ∧ x.1 ≤ x.2 ∧ x.2 ≤ 1048576
/-- what comes down a row in t ticks -/
def dn : List (Int × Int) → Int → Int
  | [], t => t
  | x :: r, t => dn r (lst x.1 x.2 t)
/-- the wait for n ticks through a row -/
def thr : List (Int × Int) → Int → Int
  | [], n => n
  | x :: r, n => wt x.1 x.2 (thr r n)

theorem okr.lst_le {x : Int × Int} (h : okr x) {t : Int} (ht : 0 ≤ t) : lst x.1 x.2 t ≤ t := by
  obtain ⟨a, b, c⟩ := h; exact Tithe.lst_le (by omega) (by omega) (by omega) ht
theorem okr.lst_nonneg {x : Int × Int} (h : okr x) (t : Int) : 0 ≤ lst x.1 x.2 t := by
  obtain ⟨a, b, c⟩ := h; exact Tithe.lst_nonneg (by omega) (by omega) (by omega)
theorem okr.lst_mono {x : Int × Int} (h : okr x) {s t : Int} (ht : s ≤ t) : lst x.1 x.2 s ≤ lst x.1 x.2 t := by
  obtain ⟨a, b, c⟩ := h; exact Tithe.lst_mono (by omega) (by omega) (by omega) ht
theorem okr.wt_ge {x : Int × Int} (h : okr x) {n : Int} (hn : 0 ≤ n) : n ≤ wt x.1 x.2 n := by
  obtain ⟨a, b, c⟩ := h
  by_cases h0 : n = 0
  · subst h0; unfold wt; rw [if_pos rfl]; omega
  · exact wt_pos a b (by omega)
theorem wt_zero (q p : Int) : wt q p 0 = 0 := by unfold wt; rw [if_pos rfl]

theorem thr_zero (l : List (Int × Int)) : thr l 0 = 0 := by
  induction l with
  | nil => rfl
  | cons x r ih => simp only [thr]; rw [ih, wt_zero]
theorem thr_ge {l : List (Int × Int)} (h : ∀ x ∈ l, okr x) {n : Int} (hn : 0 ≤ n) : n ≤ thr l n := by
  induction l with
  | nil => exact Int.le_refl _
  | cons x r ih =>
    have a := ih (fun y hy => h y (List.mem_cons_of_mem _ hy))
    have b := (h x (List.mem_cons_self ..)).wt_ge (n := thr r n) (by omega)
    simp only [thr]; omega
theorem thr_iff {l : List (Int × Int)} (h : ∀ x ∈ l, okr x) {n : Int} (hn : 1 ≤ n) (t : Int) : n ≤ dn l t ↔ thr l n ≤ t := by
  induction l generalizing t with
  | nil => exact Iff.rfl
  | cons x r ih =>
    have hr : ∀ y ∈ r, okr y := fun y hy => h y (List.mem_cons_of_mem _ hy)
    obtain ⟨a, b, c⟩ := h x (List.mem_cons_self ..)
    simp only [dn, thr]
    rw [ih hr]
    exact lst_ge_iff a b (by have := thr_ge hr (n := n) (by omega); omega)
theorem dn_le {l : List (Int × Int)} (h : ∀ x ∈ l, okr x) {t : Int} (ht : 0 ≤ t) : dn l t ≤ t := by
  induction l generalizing t with
  | nil => exact Int.le_refl _
  | cons x r ih =>
    have hx := h x (List.mem_cons_self ..)
    have a := ih (fun y hy => h y (List.mem_cons_of_mem _ hy)) (hx.lst_nonneg t)
    have b := hx.lst_le ht
    simp only [dn]; omega
theorem dn_nonneg {l : List (Int × Int)} (h : ∀ x ∈ l, okr x) {t : Int} (ht : 0 ≤ t) : 0 ≤ dn l t := by
  induction l generalizing t with
  | nil => exact ht
  | cons x r ih => exact ih (fun y hy => h y (List.mem_cons_of_mem _ hy)) ((h x (List.mem_cons_self ..)).lst_nonneg t)
theorem dn_mono {l : List (Int × Int)} (h : ∀ x ∈ l, okr x) {s t : Int} (hs : s ≤ t) : dn l s ≤ dn l t := by
  induction l generalizing s t with
  | nil => exact hs
  | cons x r ih => exact ih (fun y hy => h y (List.mem_cons_of_mem _ hy)) ((h x (List.mem_cons_self ..)).lst_mono hs)
theorem dn_le_one {l : List (Int × Int)} (h : ∀ x ∈ l, okr x) {t : Int} (ht : 0 ≤ t) {x : Int × Int} (hx : x ∈ l) : dn l t ≤ lst x.1 x.2 t := by
  induction l generalizing t with
  | nil => exact absurd hx (by simp)
  | cons y r ih =>
    have hr : ∀ z ∈ r, okr z := fun z hz => h z (List.mem_cons_of_mem _ hz)
    have hy := h y (List.mem_cons_self ..)
    simp only [dn]
    rcases List.mem_cons.1 hx with rfl | hx'
    · exact dn_le hr (hy.lst_nonneg t)
    · exact Int.le_trans (ih hr (hy.lst_nonneg t) hx') ((hr x hx').lst_mono (hy.lst_le ht))
theorem wt_le_thr {l : List (Int × Int)} (h : ∀ x ∈ l, okr x) {n : Int} (hn : 0 ≤ n) {x : Int × Int} (hx : x ∈ l) : wt x.1 x.2 n ≤ thr l n := by
  induction l with
  | nil => exact absurd hx (by simp)
  | cons y r ih =>
    have hr : ∀ z ∈ r, okr z := fun z hz => h z (List.mem_cons_of_mem _ hz)
    have hy := h y (List.mem_cons_self ..)
    have hg := thr_ge hr hn
    simp only [thr]
    rcases List.mem_cons.1 hx with rfl | hx'
    · exact wt_mono hy.1 hy.2.1 hn hg
    · exact Int.le_trans (ih hr hx') (hy.wt_ge (by omega))
theorem thr_foldl (l : List (Int × Int)) (n : Int) : l.reverse.foldl (fun n x => wt x.1 x.2 n) n = thr l n := by
  rw [List.foldl_reverse]
  induction l with
  | nil => rfl
  | cons x r ih => simp only [List.foldr, thr]; rw [← ih]
theorem dn_foldl (l : List (Int × Int)) (t : Int) : l.foldl (fun t x => lst x.1 x.2 t) t = dn l t := by
  induction l generalizing t with
  | nil => rfl
  | cons x r ih => simp only [List.foldl, dn]; exact ih _
end Tithe
