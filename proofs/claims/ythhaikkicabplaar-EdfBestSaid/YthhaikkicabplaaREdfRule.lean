/- A plan in which each tick goes to whom the rule picks: the theorems of Dertouzos, Horn, Liu and Layland about it. No conditions. -/
import Derived.Test.YthhaikkicabplaaREdfRefMiss
namespace Go.Proofs.YthhaikkicabplaaR.Pure
open Go Go.RowKit Tithe Go.Proofs.YthhaikkicabplaaR.X Go.Proofs.YthhaikkicabplaaRW.PrintWords Go.Proofs.YthhaikkicabplaaRW.PrintLast Go.Proofs.YthhaikkicabplaaRW.PrintMore

theorem pick_rule {I : Items} {pl : Int → Int} {t : Int} (h : PickIs I.m (fun j => (j : Int)) (lfA I pl t) (enA I t) (pl t)) : I.Rule pl t := by
  have hEl : ∀ j, I.El pl j t → 0 < lfA I pl t j ∧ enA I t j = I.en j t := by
    rintro j ⟨h1, h2⟩
    unfold lfA enA
    rw [if_neg (by omega), if_neg (by omega)]
    exact ⟨by omega, rfl⟩
  have hBack : ∀ j, 0 < lfA I pl t j → I.El pl j t ∧ enA I t j = I.en j t := by
    intro j h
    unfold lfA at h
    unfold enA
    by_cases hs : t < I.s j
    · rw [if_pos hs] at h; omega
    · rw [if_neg hs] at h ⊢
      exact ⟨⟨by omega, by omega⟩, rfl⟩
  rcases h with ⟨h1, h2⟩ | ⟨j, hj, h1, h2, h3⟩
  · refine .inl ⟨h1, fun j hj hel => ?_⟩
    have a := h2 j hj
    have b := (hEl j hel).1
    omega
  · obtain ⟨e1, e2⟩ := hBack j h2
    refine .inr ⟨j, hj, h1, e1, fun k hk hel => ?_⟩
    obtain ⟨f1, f2⟩ := hEl k hel
    have := h3 k hk f1
    rw [← e2, ← f2]
    rcases this with h | ⟨h, _⟩
    · exact Int.le_of_lt h
    · exact Int.le_of_eq h

theorem greedy_rule {I : Items} {p : List Int} {n : Nat} (hg : Greedy I p n) : ∀ t : Int, 0 ≤ t → t < n → I.Rule (rd p) t := by
  intro t h0 h1
  obtain ⟨t', rfl⟩ : ∃ t' : Nat, t = t' := ⟨t.toNat, by omega⟩
  exact pick_rule (hg.2 t' (by omega))

theorem greedy_not_bad {I : Items} {p : List Int} {n : Nat} (hg : Greedy I p n) : ¬ Bad p I.m := by
  rintro ⟨t, ht, hb⟩
  have := (hg.2 t (by have := hg.1; omega)).range
  omega

/-- each period has its budget at least -/
def AllHad (I : Items) (pl : Int → Int) (n : Int) : Prop := ∀ j, j < I.m → ∀ k : Nat, I.s j + k * I.p j + I.p j ≤ n → I.q j ≤ cn pl j (I.s j + k * I.p j) (I.s j + k * I.p j + I.p j)

/-- where no stretch asks for too much, nothing is missed -/
theorem greedy_all {I : Items} (hI : Fine I) {p : List Int} {n : Nat} (hg : Greedy I p n) (hd : ∀ a b : Int, 0 ≤ a → a ≤ b → b ≤ n → I.dem a b ≤ b - a) : AllHad I (rd p) n := by
  intro j hj k hk
  by_cases h : I.q j ≤ cn (rd p) j (I.s j + k * I.p j) (I.s j + k * I.p j + I.p j)
  · exact h
  · obtain ⟨a, b, h0, h1, h2, h3⟩ := Items.missed hI.ok (greedy_rule hg) hj (k := k) (by omega) hk (by omega)
    have := hd a b h0 h1 h2
    omega

/-- where any plan misses nothing, no stretch asks for too much -/
theorem all_dem {I : Items} (hI : Fine I) {pl : Int → Int} {n : Int} (h : AllHad I pl n) {a b : Int} (hab : a ≤ b) (hb : b ≤ n) : I.dem a b ≤ b - a := by
  by_cases hd : I.dem a b ≤ b - a
  · exact hd
  · refine absurd ?_ (fun h => h)
    refine Items.too_much hI.ok pl hab hb (by omega) (fun j hj k hk hle => ?_)
    obtain ⟨k', rfl⟩ : ∃ k' : Nat, k = k' := ⟨k.toNat, by omega⟩
    exact h j hj k' hle

theorem greedy_best {I : Items} (hI : Fine I) {p : List Int} {n : Nat} (hg : Greedy I p n) {pl : Int → Int} (h : AllHad I pl n) : AllHad I (rd p) n :=
  greedy_all hI hg (fun _ _ _ hab hb => all_dem hI h hab hb)
end Go.Proofs.YthhaikkicabplaaR.Pure
