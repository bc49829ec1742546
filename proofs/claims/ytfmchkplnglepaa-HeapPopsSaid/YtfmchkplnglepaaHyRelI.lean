/- A heap beside the numbers that All said: what the law HeapPops goes through. No conditions. -/
import Derived.Test.YtfmchkplnglepaaHpAllI
namespace Go.Proofs.Ytfmchkplnglepaa.HpI
open Go.RowKit Go.Proofs.YtfmchkplnglepaaW.PrintWords Go.Proofs.YtfmchkplnglepaaW.PrintLast Go.Proofs.YtfmchkplnglepaaW.PrintMore
open Go Go.Proofs.Ytfmchkplnglepaa.Hp
set_option linter.unusedVariables false
set_option linter.unusedSimpArgs false
theorem HP.re' {P Q : Nat → Prop} {g : Nat} {es : List En} {W : World} (h : HP P g es W) (hq : ∀ k, k < W.heap.size → P k → Q k) : HP Q g es W := by
  obtain ⟨A, c, bm, D, h1, h2, h3, h4, h5, h6, h7⟩ := h
  exact ⟨A, c, bm, D, h1, hq g (blk_lt h1) h2, hq bm h6.lt h3, h4, Kd.R_mono (Kd.R_bound h5) (fun k hk => ⟨hq k hk.2.2.1 hk.1.1, hk.1.2⟩), h6, h7⟩
theorem HS.re' {P Q : Nat → Prop} {g : Nat} {L : List En} {W : World} (h : HS P g L W) (hq : ∀ k, k < W.heap.size → P k → Q k) : HS Q g L W := by
  obtain ⟨es, h1, h2⟩ := h
  exact ⟨es, h1.re' hq, h2⟩
theorem R_own1 {W : World} {base : Nat} {ok : Nat → Prop} {v : Value} {xs : List Int} (h : Kd.R (Kd.int .i64) 3 W base ok v xs) : Kd.R (Kd.int .i64) 3 W base (fun k => some k = v.ownBlock) v xs := Kd.R_of_own (Kd.own_of_R h) (fun k hk => hk.symm)
abbrev ow (A : Option Addr) (n c : Nat) : Option Nat := (Value.slice A n c).ownBlock
/-- a heap, and a row of numbers that is not its own -/
def Ty (w : World) (g : Nat) (L : List En) (D : Option Addr) (n d : Nat) (us : List Int) (W : World) : Prop :=
  HS (fun k => w.heap.size ≤ k ∧ some k ≠ ow D n d) g L W ∧ Kd.R (Kd.int .i64) 3 W w.heap.size (fun k => some k = ow D n d) (.slice D n d) us ∧ Off (fun k => w.heap.size ≤ k) w W
section
variable {w W W1 : World} {g n d : Nat} {L : List En} {D : Option Addr} {us : List Int}
theorem Ty.below (h : Ty w g L D n d us W) (hb : Below W.heap.size W W1) : Ty w g L D n d us W1 := ⟨h.1.off (fun k hk _ => hb.block k hk), Kd.R_below h.2.1 hb, h.2.2.below hb⟩
theorem Ty.drewN (h : Ty w g L D n d us W) (m : Nat) : Ty w g L D n d us (W.drewN m) := h.below (pw_below_drewN (Below.refl _ _) m)
theorem Ty.drew (h : Ty w g L D n d us W) : Ty w g L D n d us W.drew := h.below (below_drew1 (Below.refl _ _))
theorem Ty.bel (h : Ty w g L D n d us W) : Below w.heap.size w W := h.2.2.toBelow
theorem Tx.all (h : Tx w g L W) : Calls Try.prog 19 #[.pointer (some ⟨g, 0, none⟩)] W fun e W' => ∃ D d, e = .returned (.slice D L.length d) ∧ Ty w g L D L.length d (L.map (·.1)) W' := by
  refine (hs_all h.1).mono ?_
  rintro e W' ⟨v, rfl, hr, hb⟩
  obtain ⟨D, d, rfl⟩ := Kd.R_slice hr
  rw [List.length_map] at hr ⊢
  have b0 := Kd.R_base hr
  refine ⟨D, d, rfl, ?_, Kd.R_mono (R_own1 (Kd.R_lower hr h.2.2.2.2.1)) (fun k hk => hk), h.2.below hb⟩
  refine ((h.1.re' (Q := fun k => w.heap.size ≤ k ∧ k < W.heap.size) (fun k hk hp => ⟨hp, hk⟩)).off (fun k hk _ => hb.block k hk)).re' (fun k _ hp => ⟨hp.1, fun e => ?_⟩)
  have := b0 k e.symm
  have := hp.2
  omega
theorem Ty.len (h : Ty w g L D n d us W) : Calls Try.prog 20 #[.pointer (some ⟨g, 0, none⟩)] W fun e W' => e = .returned (.int .i64 (L.length : Int)) ∧ W' = W := hs_len h.1
theorem Ty.pop (h : Ty w g L D n d us W) : Calls Try.prog 21 #[.pointer (some ⟨g, 0, none⟩)] W fun e W' => e = .returned (.tuple #[.int .i64 (first3 L).1, .int .i64 (first3 L).2.1, .bool (first3 L).2.2]) ∧ Ty w g L.tail D n d us W' := by
  refine (hs_pop h.1).mono ?_
  rintro e W' ⟨rfl, hc, ho⟩
  exact ⟨rfl, hc, Kd.R_step h.2.1 (fun k hk hl => ho.2.2.2.2 k hl (fun hp => hp.2 hk)), h.2.2.trans ⟨ho.1, ho.2.1, ho.2.2.1, ho.2.2.2.1, fun k hk hn => ho.2.2.2.2 k hk (fun hp => hn hp.1)⟩⟩
theorem Ty.at_ (h : Ty w g L D n d us W) {i : Nat} (hi : i < n) : ∃ db, D = some ⟨db, 0, none⟩ ∧ W.cell? ⟨db, i, none⟩ = some (.int .i64 (us.getD i 0)) := by
  have hn := (Kd.R_reads' h.2.1).1
  obtain ⟨db, co, eo, _⟩ := Kd.R_form h.2.1 (by omega)
  injection eo with ea _ ec
  subst ea
  refine ⟨db, rfl, ?_⟩
  obtain ⟨ce, hcl, hM, hcc, hfr⟩ := Kd.R_elem h.2.1 0 (i : Int) (by omega) (by omega)
  simp only [Int.toNat_natCast] at hcc hM
  obtain rfl : ce = _ := hM
  have e0 := hcc 0 _ rfl
  simp only [show (Kd.int .i64).sz = 1 from rfl, Nat.mul_one, Nat.add_zero] at e0
  exact e0
end
/-- how far the law has come: the rest, and the last one -/
def Zk (L : List En) (i : Nat) (li lk : Int) (M : List En) : Prop := M = L.drop i ∧ (0 < i → (li, lk) = at' L (i - 1))
theorem zk_start (L : List En) : Zk L 0 0 0 L := ⟨rfl, fun h => absurd h (by omega)⟩
theorem zk_step {L M : List En} {i : Nat} {li lk : Int} (hs : Srt L) (h : Zk L i li lk M) (hi : i < L.length) :
    ∃ (xi xk : Int) (r : List En), M = (xi, xk) :: r ∧ (L.map (·.1)).getD i 0 = xi ∧ Zk L (i + 1) xi xk r ∧ (0 < i → (lk < xk ∨ (lk = xk ∧ li < xi))) := by
  obtain ⟨h1, h2⟩ := h
  have e := List.drop_eq_getElem_cons hi
  have ea : at' L i = L[i] := by unfold at'; rw [getD_eq hi]
  refine ⟨L[i].1, L[i].2, L.drop (i + 1), by rw [h1, e], by rw [getD_fst]; exact congrArg Prod.fst ea, ⟨rfl, fun _ => by rw [Nat.add_sub_cancel, ea]⟩, fun h0 => ?_⟩
  have hb : bef (at' L (i - 1)) (at' L i) = true := by
    rw [ea]
    unfold at'
    rw [getD_eq (by omega)]
    exact List.pairwise_iff_getElem.1 hs (i - 1) i (by omega) hi (by omega)
  rw [← h2 h0, ea, bef_iff] at hb
  exact hb
theorem zk_end {L M : List En} {i : Nat} {li lk : Int} (h : Zk L i li lk M) (hi : ¬ i < L.length) : M = [] := by rw [h.1]; exact List.drop_eq_nil_of_le (by omega)
theorem ins_len' (p : En) (L : List En) : (ins p L).length = L.length + 1 := (ins_perm p L).length_eq
end Go.Proofs.Ytfmchkplnglepaa.HpI
