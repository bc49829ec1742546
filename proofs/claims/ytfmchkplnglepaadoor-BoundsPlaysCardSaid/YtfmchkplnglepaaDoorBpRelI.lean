/- A calendar beside the document's list and an operation: what the law BoundsPlays goes through. No conditions. -/
import Derived.Test.YtfmchkplnglepaaDoorRfAI
import Derived.Test.YtfmchkplnglepaaDoorNumE
import Derived.Test.YtfmchkplnglepaaDoorQx1
namespace Go.Proofs.YtfmchkplnglepaaDoor.R11
open Go.RowKit Go.Proofs.YtfmchkplnglepaaDoorW.PrintWords Go.Proofs.YtfmchkplnglepaaDoorW.PrintLast Go.Proofs.YtfmchkplnglepaaDoorW.PrintMore
open Go Go.Proofs.YtfmchkplnglepaaDoor.Hp Go.Proofs.YtfmchkplnglepaaDoor.HpI Go.Proofs.YtfmchkplnglepaaDoor.Q Tithe
set_option linter.unusedVariables false
set_option linter.unusedSimpArgs false
abbrev kT := k53
/-- an error's value -/
def eW : Option Int → Value
  | none => .nilIface
  | some c => .iface 73 (.int .i64 c)
theorem num_eW (o : Option Int) (W : World) (hG : GG W) : Calls Tryd.prog 9 #[eW o] W fun e W' => e = .returned (.int .i64 (o.getD 0)) ∧ Below W.heap.size W W' := by
  cases o with
  | none =>
    refine (num_none W).mono ?_
    rintro e W' ⟨rfl, rfl⟩
    exact ⟨rfl, (Below.refl W.heap.size W).alloc (Nat.le_refl _) _⟩
  | some a =>
    refine (num_some a W hG).mono ?_
    rintro e W' ⟨rfl, h⟩
    exact ⟨rfl, h⟩
theorem num_is (o : Option Int) {r : Int} (hr : o.getD 0 = r) (W : World) (hG : GG W) : Calls Tryd.prog 9 #[eW o] W fun e W' => e = .returned (.int .i64 r) ∧ Below W.heap.size W W' := by
  rw [← hr]; exact num_eW o W hG
set_option maxHeartbeats 8000000 in
set_option maxRecDepth 100000 in
theorem rput_neg (W : World) (A : Option Addr) (n cap : Nat) (id a : Int) (h : id < 0 ∨ a < 0) :
    Calls Tryd.prog 12 #[.slice A n cap, .int .i64 id, .int .i64 a] W fun e W' => e = .returned (.tuple #[.slice A n cap, .int .i64 1]) ∧ ∃ n, W' = W.drewN n := by
  by_cases h1 : id < 0
  · have d1 : decide (id < 0) = true := decide_eq_true h1
    clear h h1
    go_enter Tryd.func12, Tryd.ntmps12
    go_wp2
    go_ret2
    exact ⟨rfl, by first | exact ⟨0, rfl⟩ | exact ⟨_, rfl⟩⟩
  · have d1 : decide (id < 0) = false := decide_eq_false h1
    have d2 : decide (a < 0) = true := decide_eq_true (by omega)
    clear h h1
    go_enter Tryd.func12, Tryd.ntmps12
    go_wp2
    go_ret2
    exact ⟨rfl, by first | exact ⟨0, rfl⟩ | exact ⟨_, rfl⟩⟩
/-- a row's block -/
abbrev ow (A : Option Addr) (n c : Nat) : Option Nat := (Value.slice A n c).ownBlock
/-- between two rounds: a calendar and the document's list, both of L -/
def Pl (w : World) (c : Nat) (L : List En) (A : Option Addr) (cap : Nat) (W : World) : Prop :=
  Ca (fun k => w.heap.size ≤ k ∧ some k ≠ ow A L.length cap) c L W ∧
  Kd.R kT 53 W w.heap.size (fun k => some k = ow A L.length cap) (.slice A L.length cap) (L.map mk) ∧ Off (fun k => w.heap.size ≤ k) w W
/-- within a round: the calendar L, the list M, the numbers us that Due answered, the operation -/
def Po (w : World) (c : Nat) (L : List En) (A : Option Addr) (cap : Nat) (M : List En) (B : Option Addr) (cb : Nat) (us : List Int) (ob : Nat) (x y t : Int) (W : World) : Prop :=
  Ca (fun k => w.heap.size ≤ k ∧ some k ≠ ow A M.length cap ∧ some k ≠ ow B us.length cb ∧ k ≠ ob) c L W ∧
  Kd.R kT 53 W w.heap.size (fun k => some k = ow A M.length cap) (.slice A M.length cap) (M.map mk) ∧
  Kd.R (Kd.int .i64) 3 W w.heap.size (fun k => some k = ow B us.length cb) (.slice B us.length cb) us ∧
  (some ob ≠ ow A M.length cap ∧ w.heap.size ≤ ob ∧ W.heap[ob]? = some (.cells #[.int .i64 x, .int .i64 y, .int .i64 t] 40 (0, 0))) ∧
  Off (fun k => w.heap.size ≤ k) w W
theorem below_off {w W : World} (h : Below w.heap.size w W) : Off (fun k => w.heap.size ≤ k) w W := ⟨h.os, h.tape, h.output, h.size, fun k hk hn => h.block k (Nat.lt_of_not_le hn)⟩
theorem first3_nil {M : List En} (h : ¬ 0 < M.length) : first3 M = (0, 0, false) := by
  cases M with
  | nil => rfl
  | cons x r => exact absurd (by simp) h
theorem first3_pos {M : List En} (h : 0 < M.length) : first3 M = ((at' M 0).1, (rd_T53 (M.map mk) 0).f1, true) := by
  have := rd_mk M h
  rw [show ((0 : Nat) : Int) = 0 from rfl] at this
  rw [this]
  cases M with
  | nil => exact absurd h (by simp)
  | cons x r => rfl
section
variable {w W W1 : World} {c cap cb ob : Nat} {L M : List En} {A B : Option Addr} {us : List Int} {x y t : Int}
theorem own_lt' {α : Type} {d : Kd α} {e base : Nat} {ok : Nat → Prop} {v : Value} {xs : List α} (h : d.R e W base ok v xs) : ∀ k, v.ownBlock = some k → k < W.heap.size := fun k hk => ((Kd.R_bound h).1 k hk).2.2.1
theorem Pl.below (h : Pl w c L A cap W) (hb : Below W.heap.size W W1) : Pl w c L A cap W1 := ⟨h.1.below hb, Kd.R_below h.2.1 hb, h.2.2.below hb⟩
theorem Pl.drewN (h : Pl w c L A cap W) (n : Nat) : Pl w c L A cap (W.drewN n) := h.below (pw_below_drewN (Below.refl _ _) n)
theorem Pl.drew (h : Pl w c L A cap W) : Pl w c L A cap W.drew := h.below (below_drew1 (Below.refl _ _))
theorem Pl.alloc (h : Pl w c L A cap W) (o : Obj) : Pl w c L A cap (W.alloc o) := h.below (below_alloc (Below.refl _ _) o)
theorem Pl.bel (h : Pl w c L A cap W) : Below w.heap.size w W := h.2.2.toBelow
theorem Po.below (h : Po w c L A cap M B cb us ob x y t W) (hb : Below W.heap.size W W1) : Po w c L A cap M B cb us ob x y t W1 :=
  ⟨h.1.below hb, Kd.R_below h.2.1 hb, Kd.R_below h.2.2.1 hb, ⟨h.2.2.2.1.1, h.2.2.2.1.2.1, (hb.block ob (blk_lt h.2.2.2.1.2.2)).trans h.2.2.2.1.2.2⟩, h.2.2.2.2.below hb⟩
theorem Po.drewN (h : Po w c L A cap M B cb us ob x y t W) (n : Nat) : Po w c L A cap M B cb us ob x y t (W.drewN n) := h.below (pw_below_drewN (Below.refl _ _) n)
theorem Po.drew (h : Po w c L A cap M B cb us ob x y t W) : Po w c L A cap M B cb us ob x y t W.drew := h.below (below_drew1 (Below.refl _ _))
theorem Po.alloc (h : Po w c L A cap M B cb us ob x y t W) (o : Obj) : Po w c L A cap M B cb us ob x y t (W.alloc o) := h.below (below_alloc (Below.refl _ _) o)
theorem Po.bel (h : Po w c L A cap M B cb us ob x y t W) : Below w.heap.size w W := h.2.2.2.2.toBelow
theorem Po.cells (h : Po w c L A cap M B cb us ob x y t W) : W.cell? ⟨ob, 0, none⟩ = some (.int .i64 x) ∧ W.cell? ⟨ob, 1, none⟩ = some (.int .i64 y) ∧ W.cell? ⟨ob, 2, none⟩ = some (.int .i64 t) := by
  have hb := h.2.2.2.1.2.2
  exact ⟨cell_of_row W ob 0 _ _ (0, 0) hb, cell_of_row W ob 1 _ _ (0, 0) hb, cell_of_row W ob 2 _ _ (0, 0) hb⟩
theorem Pl.make (h : Pl w c L A cap W) (x y t : Int) : Po w c L A cap L none 0 [] W.heap.size x y t (W.alloc (.cells #[.int .i64 x, .int .i64 y, .int .i64 t] 40)) := by
  refine ⟨?_, (h.alloc _).2.1, Kd.R_nil _ _ _ _ _, ⟨fun e => ?_, h.2.2.2.2.2.1, heap_alloc_new _ _⟩, (h.alloc _).2.2⟩
  · exact ((h.1.re (Q := fun k => (w.heap.size ≤ k ∧ some k ≠ ow A L.length cap) ∧ k < W.heap.size) (fun k hk hp => ⟨hp, hk⟩)).off (fun k hk _ => heap_alloc_old _ _ hk)).re (fun k _ hp => ⟨hp.1.1, hp.1.2, by simp [Value.ownBlock], by have := hp.2; omega⟩)
  · have := own_lt' h.2.1 _ e.symm
    omega
theorem Po.close (h : Po w c L A cap L B cb us ob x y t W) : Pl w c L A cap W := ⟨h.1.re (fun k _ hp => ⟨hp.1, hp.2.1⟩), h.2.1, h.2.2.2.2⟩
/-- the blocks that the calendar may turn -/
abbrev Pk (w : World) (A : Option Addr) (n cap : Nat) (B : Option Addr) (m cb ob : Nat) (k : Nat) : Prop := w.heap.size ≤ k ∧ some k ≠ ow A n cap ∧ some k ≠ ow B m cb ∧ k ≠ ob
theorem Po.fresh (h : Po w c L A cap M B cb us ob x y t W) : ∀ k, W.heap.size ≤ k → Pk w A M.length cap B us.length cb ob k := fun k hk =>
  ⟨Nat.le_trans h.2.2.2.2.2.2.2.1 hk, fun e => by have := own_lt' h.2.1 _ e.symm; omega, fun e => by have := own_lt' h.2.2.1 _ e.symm; omega, by have := blk_lt h.2.2.2.1.2.2; omega⟩
theorem Po.turn {L' : List En} (h : Po w c L A cap M B cb us ob x y t W) (hc : Ca (Pk w A M.length cap B us.length cb ob) c L' W1) (ho : Off (Pk w A M.length cap B us.length cb ob) W W1) : Po w c L' A cap M B cb us ob x y t W1 :=
  ⟨hc, Kd.R_step h.2.1 (fun k hk hl => ho.2.2.2.2 k hl (fun hp => hp.2.1 hk)), Kd.R_step h.2.2.1 (fun k hk hl => ho.2.2.2.2 k hl (fun hp => hp.2.2.1 hk)),
    ⟨h.2.2.2.1.1, h.2.2.2.1.2.1, (ho.2.2.2.2 ob (blk_lt h.2.2.2.1.2.2) (fun hp => hp.2.2.2 rfl)).trans h.2.2.2.1.2.2⟩, h.2.2.2.2.trans (ho.re (fun k hk => hk.1))⟩
/-- the list consumed, a new one answered -/
theorem Po.ref {v1 : Value} {M1 : List En} (h : Po w c L A cap M none 0 [] ob x y t W) (hr : Kd.R kT 53 W1 w.heap.size (fun k => some k = ow A M.length cap ∨ W.heap.size ≤ k) v1 (M1.map mk)) (hb : Below w.heap.size w W1) (hk : Kept W W1 (fun k => some k = ow A M.length cap)) :
    ∃ A1 cap1, v1 = .slice A1 M1.length cap1 ∧ Po w c L A1 cap1 M1 none 0 [] ob x y t W1 := by
  obtain ⟨A1, cap1, rfl⟩ := Kd.R_slice hr
  rw [List.length_map] at hr ⊢
  have h0 : ∀ k, ow A1 M1.length cap1 = some k → some k = ow A M.length cap ∨ W.heap.size ≤ k := fun k e => hr.1 k e
  refine ⟨A1, cap1, rfl, ?_, Kd.R_tight rfl hr, Kd.R_nil _ _ _ _ _, ⟨fun e => ?_, h.2.2.2.1.2.1, ?_⟩, below_off hb⟩
  · refine ((h.1.re (Q := fun k => Pk w A M.length cap none 0 0 ob k ∧ k < W.heap.size) (fun k hl hp => ⟨hp, hl⟩)).off (fun k hl hp => hk.2 k hl hp.1.2.1)).re (fun k _ hp => ⟨hp.1.1, fun e => ?_, by simp [Value.ownBlock], hp.1.2.2.2⟩)
    rcases h0 k e.symm with e2 | e2
    · exact hp.1.2.1 e2
    · have := hp.2; omega
  · rcases h0 ob e.symm with e2 | e2
    · exact h.2.2.2.1.1 e2
    · have := blk_lt h.2.2.2.1.2.2; omega
  · exact (hk.2 ob (blk_lt h.2.2.2.1.2.2) h.2.2.2.1.1).trans h.2.2.2.1.2.2
theorem Po.readC (h : Po w c L A cap M B cb us ob x y t W) : Kd.C kT W A M.length (M.map mk) ∧ M.length ≤ cap := by
  obtain ⟨h1, h2, h3⟩ := Kd.R_reads' h.2.1
  rw [List.length_map] at h3
  exact ⟨h3, h2⟩
theorem Po.at0 (h : Po w c L A cap M B cb us ob x y t W) (hp : 0 < M.length) : ∃ ad, A = some ad ∧ W.cell? ⟨ad.block, ad.off + 1, none⟩ = some (.int .i64 (rd_T53 (M.map mk) 0).f1) := by
  obtain ⟨ad, e, _, y1⟩ := at_T53 h.readC.1 0 (Int.le_refl 0) (by omega)
  exact ⟨ad, e, y1⟩
theorem Po.calls_find (h : Po w c L A cap M B cb us ob x y t W) (id : Int) {k : Nat} {r : Int} (hf : titheref11_Find.f k (M.map mk) id = some r) :
    Calls Tryd.prog 19 #[.slice A M.length cap, .int .i64 id] W fun e W' => e = .returned (.int .i64 r) ∧ Po w c L A cap M B cb us ob x y t W' := by
  have hc := Kd.R_reads' h.2.1
  have := titheref11_Find.calls k A cap (M.map mk) id r W hc.2.2 (by rw [← hc.1]; exact hc.2.1) hf
  rw [List.length_map] at this
  refine this.mono ?_
  rintro e W' ⟨rfl, n, rfl⟩
  exact ⟨rfl, h.drewN n⟩
/-- what Drop answers -/
def dropE (id : Int) (L : List En) : Option Int := if id ∈ L.map (·.1) then none else some 50
theorem Po.calls_rdrop (h : Po w c L A cap M none 0 [] ob x y t W) (hl : M.length ≤ 1000000) (hn : (M.map (·.1)).Nodup) (id : Int) :
    Calls Tryd.prog 14 #[.slice A M.length cap, .int .i64 id] W fun e W' => ∃ A1 cap1, e = .returned (.tuple #[.slice A1 (del id M).length cap1, .int .i64 ((dropE id M).getD 0)]) ∧ Po w c L A1 cap1 (del id M) none 0 [] ob x y t W' := by
  obtain ⟨k, hf⟩ := (drop_f M hl hn id).ex
  refine (titheref11_Drop.calls k (fun k => some k = ow A M.length cap) (.slice A M.length cap) (M.map mk) id _ _ w W h.bel h.2.1 hf).mono ?_
  rintro e W' ⟨v, rfl, hr, hb, hk⟩
  obtain ⟨A1, cap1, rfl, hp⟩ := h.ref hr hb hk
  refine ⟨A1, cap1, ?_, hp⟩
  unfold dropE
  split <;> rfl
theorem Po.calls_rput (h : Po w c L A cap M none 0 [] ob x y t W) (hl : M.length ≤ 1000000) (hn : (M.map (·.1)).Nodup) (id a : Int) (h0 : 0 ≤ id) (h1 : 0 ≤ a) :
    Calls Tryd.prog 12 #[.slice A M.length cap, .int .i64 id, .int .i64 a] W fun e W' => ∃ A1 cap1, e = .returned (.tuple #[.slice A1 (ins (id, a) (del id M)).length cap1, .int .i64 0]) ∧ Po w c L A1 cap1 (ins (id, a) (del id M)) none 0 [] ob x y t W' := by
  obtain ⟨k, hf⟩ := (put_f M hl hn id a h0 h1).ex
  refine (titheref11_Put.calls k (fun k => some k = ow A M.length cap) (.slice A M.length cap) (M.map mk) id a _ _ w W h.bel h.2.1 hf).mono ?_
  rintro e W' ⟨v, rfl, hr, hb, hk⟩
  obtain ⟨A1, cap1, rfl, hp⟩ := h.ref hr hb hk
  exact ⟨A1, cap1, rfl, hp⟩
theorem Po.calls_rputn (h : Po w c L A cap M B cb us ob x y t W) (id a : Int) (hn : id < 0 ∨ a < 0) :
    Calls Tryd.prog 12 #[.slice A M.length cap, .int .i64 id, .int .i64 a] W fun e W' => e = .returned (.tuple #[.slice A M.length cap, .int .i64 1]) ∧ Po w c L A cap M B cb us ob x y t W' := by
  refine (rput_neg W A M.length cap id a hn).mono ?_
  rintro e W' ⟨rfl, n, rfl⟩
  exact ⟨rfl, h.drewN n⟩
theorem Po.calls_rdue (h : Po w c L A cap M none 0 [] ob x y t W) (hl : M.length ≤ 1000000) (till : Int) :
    Calls Tryd.prog 16 #[.slice A M.length cap, .int .i64 till] W fun e W' => ∃ A1 cap1 B cb, e = .returned (.tuple #[.slice A1 (restL M till).length cap1, .slice B ((dueL M till).map (·.1)).length cb]) ∧ Po w c L A1 cap1 (restL M till) B cb ((dueL M till).map (·.1)) ob x y t W' := by
  obtain ⟨k, hf⟩ := (due_f M hl till).ex
  have hc := Kd.R_reads' h.2.1
  have := titheref11_Due.calls k A cap (M.map mk) till _ _ W hc.2.2 (by rw [← hc.1]; exact hc.2.1) hf
  rw [List.length_map] at this
  refine this.mono ?_
  rintro e W' ⟨v0, v1, rfl, h0, h1, hb⟩
  obtain ⟨A1, cap1, rfl⟩ := Kd.R_slice h0
  obtain ⟨B, cb, rfl⟩ := Kd.R_slice h1
  rw [List.length_map (f := mk)] at h0 ⊢
  have b0 := Kd.R_base h0
  have b1 := Kd.R_base h1
  have hsz := h.2.2.2.2.2.2.2.1
  refine ⟨A1, cap1, B, cb, rfl, ?_, Kd.R_tight rfl (Kd.R_lower h0 hsz), Kd.R_tight rfl (Kd.R_lower h1 hsz), ⟨fun e => ?_, h.2.2.2.1.2.1, (hb.block ob (blk_lt h.2.2.2.1.2.2)).trans h.2.2.2.1.2.2⟩, h.2.2.2.2.below hb⟩
  · refine ((h.1.re (Q := fun k => Pk w A M.length cap none 0 0 ob k ∧ k < W.heap.size) (fun k hl hp => ⟨hp, hl⟩)).off (fun k hl hp => hb.block k hl)).re (fun k _ hp => ⟨hp.1.1, fun e => ?_, fun e => ?_, hp.1.2.2.2⟩)
    · have := b0 k e.symm; have := hp.2; omega
    · have := b1 k e.symm; have := hp.2; omega
  · have := b0 ob e.symm; have := blk_lt h.2.2.2.1.2.2; omega
theorem Po.calls_put (h : Po w c L A cap M B cb us ob x y t W) (hl : L.length < 1000000) (id a : Int) (h0 : 0 ≤ id) (h1 : id ≤ 9223372036854775807) (h2 : 0 ≤ a) :
    Calls Tryd.prog 13 #[.pointer (some ⟨c, 0, none⟩), .int .i64 id, .int .i64 a] W fun e W' => e = .returned (eW none) ∧ Po w c (ins (id, a) (del id L)) A cap M B cb us ob x y t W' := by
  refine (cal_put h.1 h.fresh hl id a h0 h1 h2).mono ?_
  rintro e W' ⟨rfl, hc, ho⟩
  exact ⟨rfl, h.turn hc ho⟩
theorem Po.calls_putn (h : Po w c L A cap M B cb us ob x y t W) (id a : Int) (hn : id < 0 ∨ a < 0) :
    Calls Tryd.prog 13 #[.pointer (some ⟨c, 0, none⟩), .int .i64 id, .int .i64 a] W fun e W' => e = .returned (eW (some 1)) ∧ Po w c L A cap M B cb us ob x y t W' := by
  refine (cal_put_neg W c id a hn).mono ?_
  rintro e W' ⟨rfl, n, rfl⟩
  exact ⟨rfl, h.drewN n⟩
theorem Po.calls_drop (h : Po w c L A cap M B cb us ob x y t W) (id : Int) (hw : -9223372036854775808 ≤ id ∧ id ≤ 9223372036854775807) :
    Calls Tryd.prog 15 #[.pointer (some ⟨c, 0, none⟩), .int .i64 id] W fun e W' => e = .returned (eW (dropE id L)) ∧ Po w c (del id L) A cap M B cb us ob x y t W' := by
  refine (cal_drop h.1 id hw).mono ?_
  intro e W' hh
  by_cases hin : id ∈ L.map (·.1)
  · obtain ⟨rfl, hc, ho⟩ := hh.2 hin
    refine ⟨?_, h.turn hc ho⟩
    unfold dropE; rw [if_pos hin]; rfl
  · obtain ⟨rfl, rfl⟩ := hh.1 hin
    refine ⟨?_, by rw [del_none hin]; exact h⟩
    unfold dropE; rw [if_neg hin]; rfl
theorem Po.calls_at (h : Po w c L A cap M B cb us ob x y t W) (id : Int) (hw : -9223372036854775808 ≤ id ∧ id ≤ 9223372036854775807) :
    Calls Tryd.prog 18 #[.pointer (some ⟨c, 0, none⟩), .int .i64 id] W fun e W' => e = .returned (.tuple #[.int .i64 (keyL id L).1, .bool (keyL id L).2]) ∧ Po w c L A cap M B cb us ob x y t W' := by
  refine (cal_at h.1 id hw).mono ?_
  rintro e W' ⟨rfl, n, rfl⟩
  exact ⟨rfl, h.drewN n⟩
theorem Po.calls_len (h : Po w c L A cap M B cb us ob x y t W) :
    Calls Tryd.prog 20 #[.pointer (some ⟨c, 0, none⟩)] W fun e W' => e = .returned (.int .i64 (L.length : Int)) ∧ W' = W := cal_len h.1
theorem Po.calls_next (h : Po w c L A cap M B cb us ob x y t W) :
    Calls Tryd.prog 21 #[.pointer (some ⟨c, 0, none⟩)] W fun e W' => e = .returned (.tuple #[.int .i64 (first3 L).2.1, .bool (first3 L).2.2]) ∧ Po w c L A cap M B cb us ob x y t W' := by
  refine (cal_next h.1).mono ?_
  rintro e W' ⟨rfl, n, rfl⟩
  exact ⟨rfl, h.drewN n⟩
/-- Due, beside the numbers that the document answered -/
theorem Po.calls_due (h : Po w c L A cap M B cb us ob x y t W) (hl : L.length ≤ 1000000) (till : Int) :
    Calls Tryd.prog 17 #[.pointer (some ⟨c, 0, none⟩), .int .i64 till] W fun e W' => ∃ D cd, e = .returned (.slice D ((dueL L till).map (·.1)).length cd) ∧ Po w c (restL L till) A cap M B cb us ob x y t W' ∧ Kd.C (Kd.int .i64) W' D ((dueL L till).map (·.1)).length ((dueL L till).map (·.1)) ∧ ((dueL L till).map (·.1)).length ≤ cd := by
  refine (cal_due h.1 h.fresh hl till).mono ?_
  rintro e W' ⟨v, rfl, hr, hc, ho⟩
  obtain ⟨D, cd, rfl⟩ := Kd.R_slice hr
  have h3 := Kd.R_reads' hr
  exact ⟨D, cd, rfl, h.turn hc ho, h3.2.2, h3.2.1⟩
theorem same_l0 (l : List Int) (hl : l.length ≤ 1000000) : ∃ k, tithelaw11_same.f k l l = some true := by
  have key : ∀ m i : Nat, l.length - i = m → i ≤ l.length → tithelaw11_same.l0 (m + 1) l l (i : Int) = some true := by
    intro m
    induction m with
    | zero =>
      intro i h1 h2
      rw [tithelaw11_same.l0, if_neg (by omega)]
    | succ m ih =>
      intro i h1 h2
      rw [tithelaw11_same.l0, if_pos (by omega), if_pos (by omega), if_pos (by omega), if_pos rfl, w1 i (by omega)]
      exact ih (i + 1) (by omega) (by omega)
  refine ⟨l.length + 1, ?_⟩
  unfold tithelaw11_same.f
  rw [if_pos rfl]
  exact key l.length 0 (by omega) (by omega)
theorem Po.calls_same {D : Option Addr} {cd : Nat} (h : Po w c L A cap M B cb us ob x y t W) (hl : us.length ≤ 1000000) (hD : Kd.C (Kd.int .i64) W D us.length us) (hcd : us.length ≤ cd) :
    Calls Tryd.prog 8 #[.slice D us.length cd, .slice B us.length cb] W fun e W' => e = .returned (.bool true) ∧ Po w c L A cap M B cb us ob x y t W' := by
  obtain ⟨k, hf⟩ := same_l0 us hl
  have hc := Kd.R_reads' h.2.2.1
  refine (tithelaw11_same.calls k D cd us B cb us true W hD hcd hc.2.2 hc.2.1 hf).mono ?_
  rintro e W' ⟨rfl, n, rfl⟩
  exact ⟨rfl, h.drewN n⟩
end
end Go.Proofs.YtfmchkplnglepaaDoor.R11
