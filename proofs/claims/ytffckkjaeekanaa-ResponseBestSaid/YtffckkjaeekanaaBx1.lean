/- Proved here: what the machine does at calls of the functions that the laws reach is what plain functions of the same names say, or a row of the given statement out of that. No conditions. Written by a program of this session over the printer of the kit. -/
import Derived.Laws.CopyOwn
import Derived.Laws.CopyRow
import Derived.Test.YtffckkjaeekanaaWKept
import Derived.Test.YtffckkjaeekanaaBx0
namespace Go.Proofs.Ytffckkjaeekanaa.B
open Go.RowKit Go.Proofs.YtffckkjaeekanaaW.PrintWords Go.Proofs.YtffckkjaeekanaaW.PrintLast Go.Proofs.YtffckkjaeekanaaW.PrintMore
attribute [local go_sem] max2_int min2_int max_two min_two max_three min_three max_four min_four   -- for this text's walks alone
set_option linter.unusedVariables false
set_option linter.unusedSimpArgs false

/-- a builtin that is run, as a step of a walk -/
def CopyRun (P : Program) (o : Oper) (a : Act) (w : World) (K : Ending → World → Prop) : Prop := ∃ v w', (execOp a.eval o).run P w = .ok (.value v) w' ∧ K (.returned v) w'
theorem CopyRun.mono {P : Program} {o : Oper} {a : Act} {w : World} {K K' : Ending → World → Prop} (h : CopyRun P o a w K) (hk : ∀ e w', K e w' → K' e w') : CopyRun P o a w K' := by
 obtain ⟨v, w', h1, h2⟩ := h; exact ⟨v, w', h1, hk _ _ h2⟩
theorem copyL_ {P : Program} {ops : Array Oper} {rest : List Oper} {o : Oper} {a : Act} {Q : Exit → Act → World → Prop} {w : World} (hgd : o.guard = none)
  (h : CopyRun P o a w fun e w' => ∃ v, e = .returned v ∧ wpList P ops Q rest (a.put o.dst v) w') : wpList P ops Q (o :: rest) a w := by
 refine wpList_plain hgd fun K hK => ?_
 obtain ⟨v, w', h1, v', h2, h3⟩ := h
 cases h2
 unfold Oper.wp
 rw [h1]
 exact hK _ _ h3
def fl39 (x : S39) : List Value := [.int .i64 x.f0, .int .i64 x.f1, .int .i64 x.f2, .int .i64 x.f3]
theorem fl39_get : ∀ (l : List S39) (j : Nat) (v : Value), (l.flatMap fl39)[j]? = some v → ∃ p, l[j / 4]? = some p ∧ (fl39 p)[j % 4]? = some v
 | [], j, v, h => by simp at h
 | x :: r, j, v, h => by
  rw [List.flatMap_cons] at h
  by_cases hj : j < 4
  ·rw [List.getElem?_append_left (by simpa [fl39] using hj)] at h
   exact ⟨x, by rw [Nat.div_eq_of_lt hj]; rfl, by rw [Nat.mod_eq_of_lt hj]; exact h⟩
  ·rw [List.getElem?_append_right (by simp [fl39]; omega)] at h
   obtain ⟨p, h1, h2⟩ := fl39_get r (j - 4) v (by simpa [fl39] using h)
   refine ⟨p, ?_, ?_⟩
   ·rw [show j / 4 = (j - 4) / 4 + 1 by omega]; exact h1
   ·rw [show j % 4 = (j - 4) % 4 by omega]; exact h2
theorem fl39_len (l : List S39) : (l.flatMap fl39).length = l.length * 4 := by
 induction l with
 | nil => rfl
 | cons x r ih => rw [List.flatMap_cons, List.length_append, ih, List.length_cons]; simp [fl39]; omega
theorem fl39_seg : ∀ (l : List S39) (j : Nat) (p : S39), l[j]? = some p → ((l.flatMap fl39).drop (j * 4)).take 4 = fl39 p
 | [], j, p, h => by simp at h
 | x :: r, 0, p, h => by
  simp only [List.getElem?_cons_zero, Option.some.injEq] at h
  subst h
  simp [List.flatMap_cons, fl39]
 | x :: r, j + 1, p, h => by
  rw [List.flatMap_cons, show (j + 1) * 4 = (fl39 x).length + j * 4 by simp [fl39]; omega, ← List.drop_drop, List.drop_left]
  exact fl39_seg r j p (by simpa using h)
theorem run_copy_rowK {P : Program} (w : World) (dT sT ty elem : TypeId) (g o dLen dCap : Nat) (a : Addr) (sLen sCap sz : Nat) (cur : Array Value) (t : TypeId) (cs : List Value)
  (hu : P.underlying dT = some (.slice elem)) (hs : (P.info? elem).map (·.size) = some sz)
  (hg : w.heap[g]? = some (.cells cur t (0, 0))) (hn : cs.length = Nat.min sLen dLen * sz)
  (hsrc : ∀ j v, cs[j]? = some v → w.cell? (a.add j) = some v) (hfit : o + cs.length ≤ cur.size) (h1 : ∀ v ∈ cs, v.oneCell' = true) :
  (Builtin.copy_ #[dT, sT] ty #[.slice (some ⟨g, o, none⟩) dLen dCap, .slice (some a) sLen sCap]).run P w =
   .ok (goInt (Nat.min sLen dLen)) (w.setRow g (cur.toList.take o ++ cs ++ cur.toList.drop (o + cs.length)).toArray) := by
 have hl := run_loadCells_list (P := P) w a cs hsrc
 have hst := run_storeCells_at P g o t cs 0 cur w hg (by simpa using hfit) h1
 cases hq : P.info? elem with
 | none => simp [hq] at hs
 | some i =>
  have hi : i.size = sz := by simpa [hq] using hs
  simp [Builtin.copy_, run_underlying hu, Builtin.lenOf, Builtin.firstCells, sizeOf, typeInfo, hq, hi, ← hn, hl, hst]
theorem run_copy_noneK {P : Program} (w : World) (dT sT ty elem : TypeId) (d a : Option Addr) (dLen dCap sLen sCap sz : Nat) (hu : P.underlying dT = some (.slice elem)) (hs : (P.info? elem).map (·.size) = some sz) (hn : Nat.min sLen dLen = 0) :
  (Builtin.copy_ #[dT, sT] ty #[.slice d dLen dCap, .slice a sLen sCap]).run P w = .ok (goInt 0) w := by
 cases hq : P.info? elem with
 | none => simp [hq] at hs
 | some i =>
  have hl : ∀ (x : Addr), (loadCells x 0).run P w = .ok #[] w := fun x => by simpa using run_loadCells_list (P := P) w x [] (by simp)
  cases d <;> cases a <;> simp [Builtin.copy_, run_underlying hu, Builtin.lenOf, Builtin.firstCells, sizeOf, typeInfo, hq, hn, storeCells, hl]
/-- copy(dst, src): a row of the call's own, one of as many elements -/
def copyrow.f (l0 l1 : List S39) : Option (Int × List S39) := if l0.length = l1.length then some ((l1.length : Int), l1) else none
theorem copyrow.calls {o : Oper} {a : Act} {ed es : Operand} (P0_ : Nat → Prop) (u9000_ : Value) (l0 : List S39) (A1 : Option Addr) (c1 : Nat) (l1 : List S39) (r1 : Int) (r2 : List S39) (w0 w : World) (hB : Below w0.heap.size w0 w) (ho0 : Kd.R k39 39 w w0.heap.size P0_ u9000_ l0)
  (hr1 : ∀ W_, Kept w W_ (fun k_ => P0_ k_) → Kd.C k39 W_ A1 l1.length l1) (hc1 : l1.length ≤ c1) (h : copyrow.f l0 l1 = some (r1, r2))
  (ho : o.op = .call { callee := .builtin .copy, args := #[ed, es], argTypes := #[22, 22] }) (hd : a.eval ed = u9000_) (hs : a.eval es = .slice A1 l1.length c1) :
  CopyRun Try.prog o a w fun e w' => e = .returned (.int .i64 r1) ∧ Kd.R k39 39 w' w0.heap.size (fun k_ => (P0_ k_ ∨ w.heap.size ≤ k_)) u9000_ r2 ∧ Below w0.heap.size w0 w' ∧ Kept w w' (fun k_ => P0_ k_) := by
 unfold copyrow.f at h
 by_cases hl : l0.length = l1.length
 case neg => rw [if_neg hl] at h; exact absurd h (by simp)
 rw [if_pos hl] at h
 obtain ⟨rfl, rfl⟩ : (l1.length : Int) = r1 ∧ l1 = r2 := by simpa using h
 have hC := hr1 w (Kept.refl _ _)
 have hu := Try.underlying22
 have hsz : (Try.prog.info? 39).map (·.size) = some 4 := by kernel_rfl
 obtain ⟨hok, inner, ⟨hlen, h2⟩, hrep⟩ := ho0
 have hz : k39.sz = 4 := rfl
 rcases h2 with ⟨rfl, h0⟩ | ⟨g, cap, cur, rfl, hg, hh, hnc, hcm, hcs, htk⟩
 ·have e1 : l1 = [] := List.length_eq_zero_iff.1 (by omega)
  subst e1
  refine ⟨goInt 0, w, ?_, by rfl, ⟨fun k hk => .inl (hok k hk), OwnRow.none_ _ _ _ _ _⟩, hB, Kept.refl _ _⟩
  have := run_copy_noneK (P := Try.prog) w 22 22 o.type 39 none A1 0 0 0 c1 4 hu hsz (by simp)
  simp only [List.length_nil] at hs
  simp [execOp, ho, resolve, invoke, builtin, hd, hs, this, Result.andThen]
 ·by_cases h0 : l1.length = 0
  ·have e1 : l1 = [] := List.length_eq_zero_iff.1 h0
   subst e1
   have e0 : l0 = [] := List.length_eq_zero_iff.1 (by simpa using hl)
   subst e0
   refine ⟨goInt 0, w, ?_, by rfl, ?_, hB, Kept.refl _ _⟩
   ·have := run_copy_noneK (P := Try.prog) w 22 22 o.type 39 (some ⟨g, 0, none⟩) A1 0 cap 0 c1 4 hu hsz (by simp)
    simp only [List.length_nil] at hs hd
    simp [execOp, ho, resolve, invoke, builtin, hd, hs, this, Result.andThen]
   ·exact ⟨fun k hk => .inl (hok k hk), inner, ⟨hlen, .inr ⟨g, cap, cur, rfl, hg, hh, hnc, hcm, hcs, htk⟩⟩, by
     refine ⟨hrep.1, fun j p hp => by simp at hp⟩⟩
  ·obtain ⟨_, _, hrd⟩ := hC
   obtain ⟨ad, rfl, hcell⟩ := hrd (by omega)
   have hfl := fl39_len l1
   have hsrc : ∀ j v, (l1.flatMap fl39)[j]? = some v → w.cell? (ad.add j) = some v := by
    intro j v hj
    obtain ⟨p, h1, h2⟩ := fl39_get l1 j v hj
    obtain ⟨c, _, hK, hc⟩ := hcell (j / 4) p h1
    have := k39_open hK
    have := hc (j % 4) v (by rw [this]; exact h2)
    rw [hz, show j / 4 * 4 + j % 4 = j by omega] at this
    exact this
   rw [hz] at hcs
   have hfit : 0 + (l1.flatMap fl39).length ≤ cur.size := by omega
   have hone : ∀ v ∈ l1.flatMap fl39, v.oneCell' = true := by
    intro v hv
    obtain ⟨x, _, hx⟩ := List.mem_flatMap.1 hv
    unfold fl39 at hx
    simp only [List.mem_cons, List.not_mem_nil, or_false] at hx
    rcases hx with rfl | rfl | rfl | rfl <;> rfl
   have hrun := run_copy_rowK (P := Try.prog) w 22 22 o.type 39 g 0 l0.length cap ad l1.length c1 4 cur 39 (l1.flatMap fl39) hu hsz hh (by rw [hfl, hl]; simp) hsrc hfit hone
   have hmin : Nat.min l1.length l0.length = l1.length := by rw [hl]; simp
   rw [hmin] at hrun
   obtain ⟨nc, hnc'⟩ : ∃ nc, nc = (cur.toList.take 0 ++ l1.flatMap fl39 ++ cur.toList.drop (0 + (l1.flatMap fl39).length)).toArray := ⟨_, rfl⟩
   rw [← hnc'] at hrun
   refine ⟨goInt l1.length, w.setRow g nc, ?_, by rfl, ?_, below_setRow hB hg _, ?_⟩
   ·simp [execOp, ho, resolve, invoke, builtin, hd, hs, hrun, Result.andThen]
   ·refine ⟨fun k hk => .inl (hok k hk), l1.flatMap fl39, ⟨by rw [hfl, hz], .inr ⟨g, cap, nc, by rw [hl], hg, setRow_heap w g cur _ 39 _ hh, by omega, hcm, ?_, ?_⟩⟩, ?_⟩
    ·rw [hnc', hz]; simp only [List.take_zero, List.nil_append, List.size_toArray, List.length_append, List.length_drop, Array.length_toList]; omega
    ·rw [hz, hnc']
     simp only [List.take_zero, List.nil_append]
     rw [List.take_append_of_le_length (by omega), List.take_of_length_le (by omega)]
    ·refine ⟨by rw [hfl, hz], fun j p hp => ?_⟩
     rw [hz, fl39_seg l1 j p hp]
     exact k39_mkM _ _ _ p
   ·refine ⟨by simp, fun i hi hn => setRow_other w g i _ (fun e => hn ?_)⟩
    subst e
    exact hok i rfl

end Go.Proofs.Ytffckkjaeekanaa.B
