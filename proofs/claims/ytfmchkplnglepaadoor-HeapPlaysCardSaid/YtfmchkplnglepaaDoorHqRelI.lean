/- A heap beside the document's list and an operation: what the law HeapPlays goes through. No conditions. -/
import Derived.Test.YtfmchkplnglepaaDoorRfBI
import Derived.Test.YtfmchkplnglepaaDoorHpAllI
import Derived.Test.YtfmchkplnglepaaDoorHpCalI
import Derived.Test.YtfmchkplnglepaaDoorHpTxI
import Derived.Test.YtfmchkplnglepaaDoorNumE
import Derived.Test.YtfmchkplnglepaaDoorQx47
namespace Go.Proofs.YtfmchkplnglepaaDoor.Q
open Go.RowKit Go.Extern.Stop Go.Stop Go.Extern
theorem num5_none (w : World) : Calls Tryd.prog 23 #[.nilIface] w fun e w' => e = .returned (.int .i64 0) ∧ w' = w.alloc (.cells #[.int .i64 0] 73) := by
  go_enter Tryd.func23, Tryd.ntmps23
  go_wp2
  go_ret
  exact ⟨rfl, rfl⟩
set_option maxHeartbeats 4000000 in
theorem num5_some (a : Int) (w : World) (hg : GG w) : Calls Tryd.prog 23 #[.iface 73 (.int .i64 a)] w fun e w' => e = .returned (.int .i64 a) ∧ Below w.heap.size w w' := by
  unfold GG at hg
  have hlt : 0 < w.heap.size := by
    rcases Nat.eq_zero_or_pos w.heap.size with h0 | h
    · simp [World.cell?, h0] at hg
    · exact h
  have hgA : (w.alloc (.cells #[.int .i64 0] 73)).cell? ⟨0, 0, none⟩ = some (.iface 115 (.agg #[.pointer (some ⟨1, 26, none⟩)])) := by
    rw [World.cell?_alloc_lt _ _ ⟨0, 0, none⟩ hlt]; exact hg
  have htA : (w.alloc (.cells #[.int .i64 0] 73)).cell? ⟨w.heap.size, 0, none⟩ = some (.int .i64 0) := by simp
  have hfA : (w.alloc (.cells #[.int .i64 0] 73)).frozen? ⟨w.heap.size, 0, none⟩ = false := by simp
  have hit := as_hit a ⟨w.heap.size, 0, none⟩ (.int .i64 0) (w.alloc (.cells #[.int .i64 0] 73)) hgA htA hfA
  have key : ∀ W : World, (∃ W0 : World, Below w.heap.size w W0 ∧ (W0.cell? ⟨w.heap.size, 0, none⟩).isSome = true ∧ W = W0.setCell ⟨w.heap.size, 0, none⟩ (.int .i64 a)) → W.cell? ⟨w.heap.size, 0, none⟩ = some (.int .i64 a) ∧ Below w.heap.size w W := by
    rintro W ⟨W0, h1, h2, rfl⟩
    exact ⟨World.cell?_setCell_same' _ _ _ h2, h1.setCell (Nat.le_refl _) _⟩
  have hit2 : Calls Tryd.prog 42 #[.iface 73 (.int .i64 a), .iface 77 (.pointer (some ⟨w.heap.size, 0, none⟩))] (w.alloc (.cells #[.int .i64 0] 73)) fun ev w' => ev = .returned (.bool true) ∧ w'.cell? ⟨w.heap.size, 0, none⟩ = some (.int .i64 a) ∧ Below w.heap.size w w' := by
    refine hit.mono ?_
    rintro e w' ⟨rfl, hw⟩
    refine ⟨rfl, key w' ⟨_, ?_, ?_, hw⟩⟩
    · exact (((((Below.refl w.heap.size w).alloc (Nat.le_refl _) _).alloc (by simp) _).alloc (by simp; omega) _).alloc (by simp; omega) _).alloc (by simp; omega) _
    · rw [World.cell?_alloc_lt _ _ ⟨w.heap.size, 0, none⟩ (by simp; omega), World.cell?_alloc_lt _ _ ⟨w.heap.size, 0, none⟩ (by simp; omega), World.cell?_alloc_lt _ _ ⟨w.heap.size, 0, none⟩ (by simp; omega), World.cell?_alloc_lt _ _ ⟨w.heap.size, 0, none⟩ (by simp), htA]; rfl
  clear hit key
  go_enter Tryd.func23, Tryd.ntmps23
  go_wp2_with (first | (go_at_call 42; refine hit2.mono ?_; rintro e w2 ⟨rfl, hc, hb⟩))
  go_ret
  exact ⟨rfl, hb⟩
end Go.Proofs.YtfmchkplnglepaaDoor.Q
namespace Go.Proofs.YtfmchkplnglepaaDoor.R05
open Go.RowKit Go.Proofs.YtfmchkplnglepaaDoorW.PrintWords Go.Proofs.YtfmchkplnglepaaDoorW.PrintLast Go.Proofs.YtfmchkplnglepaaDoorW.PrintMore
open Go Go.Proofs.YtfmchkplnglepaaDoor.Hp Go.Proofs.YtfmchkplnglepaaDoor.HpI Go.Proofs.YtfmchkplnglepaaDoor.Q Tithe
set_option linter.unusedVariables false
set_option linter.unusedSimpArgs false
abbrev kT := k89
theorem _root_.Go.Proofs.YtfmchkplnglepaaDoor.HpI.HS.below {P : Nat → Prop} {g : Nat} {L : List En} {W W1 : World} (h : HS P g L W) (hb : Below W.heap.size W W1) : HS P g L W1 := h.off (fun k hk _ => hb.block k hk)
/-- an error's value -/
def eW : Option Int → Value
  | none => .nilIface
  | some c => .iface 73 (.int .i64 c)
theorem num_eW (o : Option Int) (W : World) (hG : GG W) : Calls Tryd.prog 23 #[eW o] W fun e W' => e = .returned (.int .i64 (o.getD 0)) ∧ Below W.heap.size W W' := by
  cases o with
  | none =>
    refine (num5_none W).mono ?_
    rintro e W' ⟨rfl, rfl⟩
    exact ⟨rfl, (Below.refl W.heap.size W).alloc (Nat.le_refl _) _⟩
  | some a =>
    refine (num5_some a W hG).mono ?_
    rintro e W' ⟨rfl, h⟩
    exact ⟨rfl, h⟩
theorem num_is (o : Option Int) {r : Int} (hr : o.getD 0 = r) (W : World) (hG : GG W) : Calls Tryd.prog 23 #[eW o] W fun e W' => e = .returned (.int .i64 r) ∧ Below W.heap.size W W' := by
  rw [← hr]; exact num_eW o W hG
set_option maxHeartbeats 8000000 in
set_option maxRecDepth 100000 in
theorem rdrop_none {W : World} {A : Option Addr} {cap : Nat} {M : List En} (hC : Kd.C k89 W A M.length (M.map mk)) (hcap : M.length ≤ cap) (hl : M.length ≤ 1000000) (id : Int) (h : id ∉ M.map (·.1)) :
    Calls Tryd.prog 29 #[.slice A M.length cap, .int .i64 id] W fun e W' => e = .returned (.tuple #[.slice A M.length cap, .int .i64 50]) ∧ ∃ n, W' = W.drewN n := by
  obtain ⟨p, p1, p2, p3, p4⟩ := place_ex M id
  have hf := find_f M hl id p p1 p2 p3
  rw [if_neg (fun hc => h (p4.1 hc))] at hf
  obtain ⟨k, hk⟩ := hf.ex
  have hpl := titheref05_place.calls k A cap (M.map mk) id (-1) W (by rw [List.length_map]; exact hC) (by rw [List.length_map]; exact hcap) hk
  rw [List.length_map] at hpl
  have HPL := Aside0.mk hpl
  clear hC hcap hl h p1 p2 p3 p4 hf hk hpl
  go_enter Tryd.func29, Tryd.ntmps29
  go_wp2_with (first
    | (go_at_call 44; refine HPL.out.mono ?_; rintro e w1 ⟨rfl, n, rfl⟩)
    | go_in)
  go_ret2
  exact ⟨rfl, by first | exact ⟨n, rfl⟩ | exact ⟨_, rfl⟩⟩
/-- a row's block -/
abbrev ow (A : Option Addr) (n c : Nat) : Option Nat := (Value.slice A n c).ownBlock
/-- between two rounds: a calendar and the document's list, both of L -/
def Pl (w : World) (c : Nat) (L : List En) (A : Option Addr) (cap : Nat) (W : World) : Prop :=
  HS (fun k => w.heap.size ≤ k ∧ some k ≠ ow A L.length cap) c L W ∧
  Kd.R kT 89 W w.heap.size (fun k => some k = ow A L.length cap) (.slice A L.length cap) (L.map mk) ∧ Off (fun k => w.heap.size ≤ k) w W
/-- within a round: the calendar L, the list M, the numbers us that Due answered, the operation -/
def Po (w : World) (c : Nat) (L : List En) (A : Option Addr) (cap : Nat) (M : List En) (B : Option Addr) (cb : Nat) (us : List Int) (ob : Nat) (x y t : Int) (W : World) : Prop :=
  HS (fun k => w.heap.size ≤ k ∧ some k ≠ ow A M.length cap ∧ some k ≠ ow B us.length cb ∧ k ≠ ob) c L W ∧
  Kd.R kT 89 W w.heap.size (fun k => some k = ow A M.length cap) (.slice A M.length cap) (M.map mk) ∧
  Kd.R (Kd.int .i64) 3 W w.heap.size (fun k => some k = ow B us.length cb) (.slice B us.length cb) us ∧
  (some ob ≠ ow A M.length cap ∧ w.heap.size ≤ ob ∧ W.heap[ob]? = some (.cells #[.int .i64 x, .int .i64 y, .int .i64 t] 62 (0, 0))) ∧
  Off (fun k => w.heap.size ≤ k) w W
theorem below_off {w W : World} (h : Below w.heap.size w W) : Off (fun k => w.heap.size ≤ k) w W := ⟨h.os, h.tape, h.output, h.size, fun k hk hn => h.block k (Nat.lt_of_not_le hn)⟩
theorem first3_nil {M : List En} (h : ¬ 0 < M.length) : first3 M = (0, 0, false) := by
  cases M with
  | nil => rfl
  | cons x r => exact absurd (by simp) h
theorem first3_pos {M : List En} (h : 0 < M.length) : first3 M = ((at' M 0).1, (rd_T89 (M.map mk) 0).f1, true) := by
  have := rd_mk M h
  rw [show ((0 : Nat) : Int) = 0 from rfl] at this
  rw [this]
  cases M with
  | nil => exact absurd h (by simp)
  | cons x r => rfl
section
variable {w W W1 : World} {c cap cb ob : Nat} {L M : List En} {A B : Option Addr} {us : List Int} {x y t : Int}
theorem own_lt' {α : Type} {d : Kd α} {e base : Nat} {ok : Nat → Prop} {v : Value} {xs : List α} (h : d.R e W base ok v xs) : ∀ k, v.ownBlock = some k → k < W.heap.size := fun k hk => ((Kd.R_bound h).1 k hk).2.2.1
theorem Pl.below (h : Pl w c L A cap W) (hb : Below W.heap.size W W1) : Pl w c L A cap W1 := ⟨h.1.below hb, Kd.R_below h.2.1 hb, h.2.2.below hb⟩
theorem Pl.drewN (h : Pl w c L A cap W) (n : Nat) : Pl w c L A cap (W.drewN n) := h.below (pw_below_drewN (Below.refl _ _) n)
theorem Pl.drew (h : Pl w c L A cap W) : Pl w c L A cap W.drew := h.below (below_drew1 (Below.refl _ _))
theorem Pl.alloc (h : Pl w c L A cap W) (o : Obj) : Pl w c L A cap (W.alloc o) := h.below (below_alloc (Below.refl _ _) o)
theorem Pl.bel (h : Pl w c L A cap W) : Below w.heap.size w W := h.2.2.toBelow
theorem Po.below (h : Po w c L A cap M B cb us ob x y t W) (hb : Below W.heap.size W W1) : Po w c L A cap M B cb us ob x y t W1 :=
  ⟨h.1.below hb, Kd.R_below h.2.1 hb, Kd.R_below h.2.2.1 hb, ⟨h.2.2.2.1.1, h.2.2.2.1.2.1, (hb.block ob (blk_lt h.2.2.2.1.2.2)).trans h.2.2.2.1.2.2⟩, h.2.2.2.2.below hb⟩
theorem Po.drewN (h : Po w c L A cap M B cb us ob x y t W) (n : Nat) : Po w c L A cap M B cb us ob x y t (W.drewN n) := h.below (pw_below_drewN (Below.refl _ _) n)
theorem Po.drew (h : Po w c L A cap M B cb us ob x y t W) : Po w c L A cap M B cb us ob x y t W.drew := h.below (below_drew1 (Below.refl _ _))
theorem Po.alloc (h : Po w c L A cap M B cb us ob x y t W) (o : Obj) : Po w c L A cap M B cb us ob x y t (W.alloc o) := h.below (below_alloc (Below.refl _ _) o)
theorem Po.bel (h : Po w c L A cap M B cb us ob x y t W) : Below w.heap.size w W := h.2.2.2.2.toBelow
theorem Po.cells (h : Po w c L A cap M B cb us ob x y t W) : W.cell? ⟨ob, 0, none⟩ = some (.int .i64 x) ∧ W.cell? ⟨ob, 1, none⟩ = some (.int .i64 y) ∧ W.cell? ⟨ob, 2, none⟩ = some (.int .i64 t) := by
  have hb := h.2.2.2.1.2.2
  exact ⟨cell_of_row W ob 0 _ _ (0, 0) hb, cell_of_row W ob 1 _ _ (0, 0) hb, cell_of_row W ob 2 _ _ (0, 0) hb⟩
theorem Pl.make (h : Pl w c L A cap W) (x y t : Int) : Po w c L A cap L none 0 [] W.heap.size x y t (W.alloc (.cells #[.int .i64 x, .int .i64 y, .int .i64 t] 62)) := by
  refine ⟨?_, (h.alloc _).2.1, Kd.R_nil _ _ _ _ _, ⟨fun e => ?_, h.2.2.2.2.2.1, heap_alloc_new _ _⟩, (h.alloc _).2.2⟩
  · exact ((h.1.re (Q := fun k => (w.heap.size ≤ k ∧ some k ≠ ow A L.length cap) ∧ k < W.heap.size) (fun k hk hp => ⟨hp, hk⟩)).off (fun k hk _ => heap_alloc_old _ _ hk)).re (fun k _ hp => ⟨hp.1.1, hp.1.2, by simp [Value.ownBlock], by have := hp.2; omega⟩)
  · have := own_lt' h.2.1 _ e.symm
    omega
theorem Po.close (h : Po w c L A cap L B cb us ob x y t W) : Pl w c L A cap W := ⟨h.1.re (fun k _ hp => ⟨hp.1, hp.2.1⟩), h.2.1, h.2.2.2.2⟩
/-- the blocks that the calendar may turn -/
abbrev Pk (w : World) (A : Option Addr) (n cap : Nat) (B : Option Addr) (m cb ob : Nat) (k : Nat) : Prop := w.heap.size ≤ k ∧ some k ≠ ow A n cap ∧ some k ≠ ow B m cb ∧ k ≠ ob
theorem Po.fresh (h : Po w c L A cap M B cb us ob x y t W) : ∀ k, W.heap.size ≤ k → Pk w A M.length cap B us.length cb ob k := fun k hk =>
  ⟨Nat.le_trans h.2.2.2.2.2.2.2.1 hk, fun e => by have := own_lt' h.2.1 _ e.symm; omega, fun e => by have := own_lt' h.2.2.1 _ e.symm; omega, by have := blk_lt h.2.2.2.1.2.2; omega⟩
theorem Po.turn {L' : List En} (h : Po w c L A cap M B cb us ob x y t W) (hc : HS (Pk w A M.length cap B us.length cb ob) c L' W1) (ho : Off (Pk w A M.length cap B us.length cb ob) W W1) : Po w c L' A cap M B cb us ob x y t W1 :=
  ⟨hc, Kd.R_step h.2.1 (fun k hk hl => ho.2.2.2.2 k hl (fun hp => hp.2.1 hk)), Kd.R_step h.2.2.1 (fun k hk hl => ho.2.2.2.2 k hl (fun hp => hp.2.2.1 hk)),
    ⟨h.2.2.2.1.1, h.2.2.2.1.2.1, (ho.2.2.2.2 ob (blk_lt h.2.2.2.1.2.2) (fun hp => hp.2.2.2 rfl)).trans h.2.2.2.1.2.2⟩, h.2.2.2.2.trans (ho.re (fun k hk => hk.1))⟩
/-- the list consumed, a new one answered -/
theorem Po.ref {v1 : Value} {M1 : List En} (h : Po w c L A cap M none 0 [] ob x y t W) (hr : Kd.R kT 89 W1 w.heap.size (fun k => some k = ow A M.length cap ∨ W.heap.size ≤ k) v1 (M1.map mk)) (hb : Below w.heap.size w W1) (hk : Kept W W1 (fun k => some k = ow A M.length cap)) :
    ∃ A1 cap1, v1 = .slice A1 M1.length cap1 ∧ Po w c L A1 cap1 M1 none 0 [] ob x y t W1 := by
  obtain ⟨A1, cap1, rfl⟩ := Kd.R_slice hr
  rw [List.length_map] at hr ⊢
  have h0 : ∀ k, ow A1 M1.length cap1 = some k → some k = ow A M.length cap ∨ W.heap.size ≤ k := fun k e => hr.1 k e
  refine ⟨A1, cap1, rfl, ?_, Kd.R_tight rfl hr, Kd.R_nil _ _ _ _ _, ⟨fun e => ?_, h.2.2.2.1.2.1, ?_⟩, below_off hb⟩
  · refine ((h.1.re (Q := fun k => Pk w A M.length cap none 0 0 ob k ∧ k < W.heap.size) (fun k hl hp => ⟨hp, hl⟩)).off (fun k hl hp => hk.2 k hl hp.1.2.1)).re (fun k _ hp => ⟨hp.1.1, fun e => ?_, by simp [Value.ownBlock], hp.1.2.2.2⟩)
    rcases h0 k e.symm with e2 | e2
    · exact hp.1.2.1 e2
    · have := hp.2; omega
  · rcases h0 ob e.symm with e2 | e2
    · exact h.2.2.2.1.1 e2
    · have := blk_lt h.2.2.2.1.2.2; omega
  · exact (hk.2 ob (blk_lt h.2.2.2.1.2.2) h.2.2.2.1.1).trans h.2.2.2.1.2.2
theorem Po.readC (h : Po w c L A cap M B cb us ob x y t W) : Kd.C kT W A M.length (M.map mk) ∧ M.length ≤ cap := by
  obtain ⟨h1, h2, h3⟩ := Kd.R_reads' h.2.1
  rw [List.length_map] at h3
  exact ⟨h3, h2⟩
theorem Po.at0 (h : Po w c L A cap M B cb us ob x y t W) (hp : 0 < M.length) : ∃ ad, A = some ad ∧ W.cell? ⟨ad.block, ad.off + 1, none⟩ = some (.int .i64 (rd_T89 (M.map mk) 0).f1) := by
  obtain ⟨ad, e, _, y1⟩ := at_T89 h.readC.1 0 (Int.le_refl 0) (by omega)
  exact ⟨ad, e, y1⟩
/-- an answer of the heap, one of the list -/
theorem Po.calls_first (h : Po w c L A cap M B cb us ob x y t W) :
    Calls Tryd.prog 31 #[.slice A M.length cap] W fun e W' => e = .returned (.tuple #[.int .i64 (first3 M).1, .int .i64 (first3 M).2.1, .bool (first3 M).2.2]) ∧ Po w c L A cap M B cb us ob x y t W' := by
  have hc := Kd.R_reads' h.2.1
  have := tithelaw05_first.calls A cap (M.map mk) _ _ _ W hc.2.2 (by rw [← hc.1]; exact hc.2.1) (first_f M)
  rw [List.length_map] at this
  refine this.mono ?_
  rintro e W' ⟨rfl, n, rfl⟩
  exact ⟨rfl, h.drewN n⟩
theorem Po.calls_rkey (h : Po w c L A cap M B cb us ob x y t W) (hl : M.length ≤ 1000000) (hn : (M.map (·.1)).Nodup) (id : Int) :
    Calls Tryd.prog 33 #[.slice A M.length cap, .int .i64 id] W fun e W' => e = .returned (.tuple #[.int .i64 (keyL id M).1, .bool (keyL id M).2]) ∧ Po w c L A cap M B cb us ob x y t W' := by
  have hc := Kd.R_reads' h.2.1
  obtain ⟨k, hf⟩ := (key_f M hl hn id).ex
  have := titheref05_Key.calls k A cap (M.map mk) id (keyL id M).1 (keyL id M).2 W hc.2.2 (by rw [← hc.1]; exact hc.2.1) hf
  rw [List.length_map] at this
  refine this.mono ?_
  rintro e W' ⟨rfl, n, rfl⟩
  exact ⟨rfl, h.drewN n⟩
theorem Po.calls_key (h : Po w c L A cap M B cb us ob x y t W) (id : Int) (hw : -9223372036854775808 ≤ id ∧ id ≤ 9223372036854775807) :
    Calls Tryd.prog 32 #[.pointer (some ⟨c, 0, none⟩), .int .i64 id] W fun e W' => e = .returned (.tuple #[.int .i64 (keyL id L).1, .bool (keyL id L).2]) ∧ Po w c L A cap M B cb us ob x y t W' := by
  refine (hs_key h.1 id hw).mono ?_
  rintro e W' ⟨rfl, n, rfl⟩
  exact ⟨rfl, h.drewN n⟩
theorem Po.calls_min (h : Po w c L A cap M B cb us ob x y t W) :
    Calls Tryd.prog 34 #[.pointer (some ⟨c, 0, none⟩)] W fun e W' => e = .returned (.tuple #[.int .i64 (first3 L).1, .int .i64 (first3 L).2.1, .bool (first3 L).2.2]) ∧ Po w c L A cap M B cb us ob x y t W' := by
  refine (hs_min h.1).mono ?_
  rintro e W' ⟨rfl, n, rfl⟩
  exact ⟨rfl, h.drewN n⟩
theorem Po.calls_len (h : Po w c L A cap M B cb us ob x y t W) :
    Calls Tryd.prog 35 #[.pointer (some ⟨c, 0, none⟩)] W fun e W' => e = .returned (.int .i64 (L.length : Int)) ∧ W' = W := hs_len h.1
theorem Po.calls_pop (h : Po w c L A cap M B cb us ob x y t W) :
    Calls Tryd.prog 30 #[.pointer (some ⟨c, 0, none⟩)] W fun e W' => e = .returned (.tuple #[.int .i64 (first3 L).1, .int .i64 (first3 L).2.1, .bool (first3 L).2.2]) ∧ Po w c L.tail A cap M B cb us ob x y t W' := by
  refine (hs_pop h.1).mono ?_
  rintro e W' ⟨rfl, hc, ho⟩
  exact ⟨rfl, h.turn hc ho⟩
/-- what Push, Move and Drop answer, and leave -/
def pushE (id : Int) (L : List En) : Option Int := if id ∈ L.map (·.1) then some 1 else none
def pushM (id a : Int) (L : List En) : List En := if id ∈ L.map (·.1) then L else ins (id, a) L
def dropE (id : Int) (L : List En) : Option Int := if id ∈ L.map (·.1) then none else some 50
def moveM (id a : Int) (L : List En) : List En := if id ∈ L.map (·.1) then ins (id, a) (del id L) else L
theorem ins_len (p : En) (L : List En) : (ins p L).length = L.length + 1 := (ins_perm p L).length_eq
theorem pushM_len (id a : Int) (L : List En) : (pushM id a L).length ≤ L.length + 1 := by
  unfold pushM
  split
  · omega
  · rw [ins_len]; omega
theorem moveM_len (id a : Int) (L : List En) : (moveM id a L).length ≤ L.length + 1 := by
  unfold moveM
  split
  · have := del_len id L; rw [ins_len]; omega
  · omega
theorem del_first {L : List En} (hn : (L.map (·.1)).Nodup) : del (first3 L).1 L = L.tail := by
  cases L with
  | nil => rfl
  | cons x r =>
    have := del_at hn (id := x.1) (j := 0) (by simp) rfl
    exact this
theorem Po.calls_push (h : Po w c L A cap M B cb us ob x y t W) (hl : L.length < 1000000) (id a : Int) (hw : -9223372036854775808 ≤ id ∧ id ≤ 9223372036854775807) :
    Calls Tryd.prog 24 #[.pointer (some ⟨c, 0, none⟩), .int .i64 id, .int .i64 a] W fun e W' => e = .returned (eW (pushE id L)) ∧ Po w c (pushM id a L) A cap M B cb us ob x y t W' := by
  refine (hs_push h.1 h.fresh hl (id, a) hw).mono ?_
  intro e W' hh
  unfold pushE pushM
  by_cases hin : id ∈ L.map (·.1)
  · obtain ⟨rfl, rfl⟩ := hh.1 hin
    rw [if_pos hin, if_pos hin]
    exact ⟨rfl, h⟩
  · obtain ⟨rfl, hc, ho⟩ := hh.2 hin
    rw [if_neg hin, if_neg hin]
    exact ⟨rfl, h.turn hc ho⟩
theorem Po.calls_move (h : Po w c L A cap M B cb us ob x y t W) (id a : Int) (hw : -9223372036854775808 ≤ id ∧ id ≤ 9223372036854775807) :
    Calls Tryd.prog 26 #[.pointer (some ⟨c, 0, none⟩), .int .i64 id, .int .i64 a] W fun e W' => e = .returned (eW (dropE id L)) ∧ Po w c (moveM id a L) A cap M B cb us ob x y t W' := by
  refine (hs_move h.1 id a hw).mono ?_
  intro e W' hh
  unfold dropE moveM
  by_cases hin : id ∈ L.map (·.1)
  · obtain ⟨rfl, hc, ho⟩ := hh.2 hin
    rw [if_pos hin, if_pos hin]
    exact ⟨rfl, h.turn hc ho⟩
  · obtain ⟨rfl, rfl⟩ := hh.1 hin
    rw [if_neg hin, if_neg hin]
    exact ⟨rfl, h⟩
theorem Po.calls_drop (h : Po w c L A cap M B cb us ob x y t W) (id : Int) (hw : -9223372036854775808 ≤ id ∧ id ≤ 9223372036854775807) :
    Calls Tryd.prog 28 #[.pointer (some ⟨c, 0, none⟩), .int .i64 id] W fun e W' => e = .returned (eW (dropE id L)) ∧ Po w c (del id L) A cap M B cb us ob x y t W' := by
  refine (hs_drop h.1 id hw).mono ?_
  intro e W' hh
  unfold dropE
  by_cases hin : id ∈ L.map (·.1)
  · obtain ⟨rfl, hc, ho⟩ := hh.2 hin
    rw [if_pos hin]
    exact ⟨rfl, h.turn hc ho⟩
  · obtain ⟨rfl, rfl⟩ := hh.1 hin
    rw [if_neg hin, del_none hin]
    exact ⟨rfl, h⟩
theorem Po.calls_rdrop (h : Po w c L A cap M none 0 [] ob x y t W) (hl : M.length ≤ 1000000) (hn : (M.map (·.1)).Nodup) (id : Int) :
    Calls Tryd.prog 29 #[.slice A M.length cap, .int .i64 id] W fun e W' => ∃ A1 cap1, e = .returned (.tuple #[.slice A1 (del id M).length cap1, .int .i64 ((dropE id M).getD 0)]) ∧ Po w c L A1 cap1 (del id M) none 0 [] ob x y t W' := by
  obtain ⟨k, hf⟩ := (drop_f M hl hn id).ex
  refine (titheref05_Drop.calls k (fun k => some k = ow A M.length cap) (.slice A M.length cap) (M.map mk) id _ _ w W h.bel h.2.1 hf).mono ?_
  rintro e W' ⟨v, rfl, hr, hb, hk⟩
  obtain ⟨A1, cap1, rfl, hp⟩ := h.ref hr hb hk
  refine ⟨A1, cap1, ?_, hp⟩
  unfold dropE
  split <;> rfl
theorem Po.calls_rpush (h : Po w c L A cap M none 0 [] ob x y t W) (hl : M.length ≤ 1000000) (id a : Int) :
    Calls Tryd.prog 25 #[.slice A M.length cap, .int .i64 id, .int .i64 a] W fun e W' => ∃ A1 cap1, e = .returned (.tuple #[.slice A1 (pushM id a M).length cap1, .int .i64 ((pushE id M).getD 0)]) ∧ Po w c L A1 cap1 (pushM id a M) none 0 [] ob x y t W' := by
  obtain ⟨k, hf⟩ := (put_f M hl id a).ex
  unfold pushM pushE
  by_cases hin : id ∈ M.map (·.1)
  · rw [if_pos hin] at hf
    rw [if_pos hin, if_pos hin]
    refine (titheref05_Push.calls k (fun k => some k = ow A M.length cap) (.slice A M.length cap) (M.map mk) id a _ _ w W h.bel h.2.1 hf).mono ?_
    rintro e W' ⟨v, rfl, hr, hb, hk⟩
    obtain ⟨A1, cap1, rfl, hp⟩ := h.ref hr hb hk
    exact ⟨A1, cap1, rfl, hp⟩
  · rw [if_neg hin] at hf
    rw [if_neg hin, if_neg hin]
    refine (titheref05_Push.calls k (fun k => some k = ow A M.length cap) (.slice A M.length cap) (M.map mk) id a _ _ w W h.bel h.2.1 hf).mono ?_
    rintro e W' ⟨v, rfl, hr, hb, hk⟩
    obtain ⟨A1, cap1, rfl, hp⟩ := h.ref hr hb hk
    exact ⟨A1, cap1, rfl, hp⟩
set_option maxHeartbeats 8000000 in
set_option maxRecDepth 100000 in
theorem Po.calls_rmove (h : Po w c L A cap M none 0 [] ob x y t W) (hl : M.length ≤ 999999) (hn : (M.map (·.1)).Nodup) (id a : Int) :
    Calls Tryd.prog 27 #[.slice A M.length cap, .int .i64 id, .int .i64 a] W fun e W' => ∃ A1 cap1, e = .returned (.tuple #[.slice A1 (moveM id a M).length cap1, .int .i64 ((dropE id M).getD 0)]) ∧ Po w c L A1 cap1 (moveM id a M) none 0 [] ob x y t W' := by
  have huR := Tryd.underlying60
  have hC := h.readC
  have hdl := del_len id M
  have hni := not_mem_del id M
  have HR := Aside0.mk (h.calls_rdrop (by omega) hn id)
  have HQ := Aside0.mk (fun (V : World) (A1 : Option Addr) (cap1 : Nat) (hV : Po w c L A1 cap1 (del id M) none 0 [] ob x y t V) => hV.calls_rpush (by omega) id a)
  have HO := Aside0.mk h
  by_cases hin : id ∈ M.map (·.1)
  · have e1 : (dropE id M).getD 0 = 0 := by unfold dropE; rw [if_pos hin]; rfl
    have e2 : moveM id a M = ins (id, a) (del id M) := by unfold moveM; rw [if_pos hin]
    have e3 : pushM id a (del id M) = ins (id, a) (del id M) := by unfold pushM; rw [if_neg hni]
    have e4 : (pushE id (del id M)).getD 0 = 0 := by unfold pushE; rw [if_neg hni]; rfl
    rw [e1, e2]
    rw [e1] at HR
    rw [e3, e4] at HQ
    clear h hC hdl hni hl hn hin e1 e2 e3 e4
    go_enter Tryd.func27, Tryd.ntmps27
    go_wp2_with (first
      | (go_at_call 29; refine HR.out.mono ?_; rintro e w1 ⟨A1, cap1, rfl, hh⟩; have HO1 := Aside0.mk hh; clear hh)
      | (go_at_call 25; refine (HQ.out _ A1 cap1 HO1.out).mono ?_; rintro e w2 ⟨A2, cap2, rfl, hh⟩; have HO2 := Aside0.mk hh; clear hh)
      | go_in)
    go_ret2
    exact ⟨_, _, rfl, HO2.out⟩
  · have e1 : (dropE id M).getD 0 = 50 := by unfold dropE; rw [if_neg hin]; rfl
    have e2 : moveM id a M = M := by unfold moveM; rw [if_neg hin]
    rw [e1, e2]
    have HN := Aside0.mk (rdrop_none hC.1 hC.2 (by omega) id hin)
    clear h hC hdl hni hl hn hin e1 e2 HR HQ
    go_enter Tryd.func27, Tryd.ntmps27
    go_wp2_with (first
      | (go_at_call 29; refine HN.out.mono ?_; rintro e w1 ⟨rfl, n, rfl⟩)
      | go_in)
    go_ret2
    exact ⟨_, _, rfl, by repeat (first | exact HO.out | apply Po.drew | apply Po.drewN)⟩
theorem same_l0 (l : List Int) (hl : l.length ≤ 1000000) : ∃ k, tithelaw05_same.f k l l = some true := by
  have key : ∀ m i : Nat, l.length - i = m → i ≤ l.length → tithelaw05_same.l0 (m + 1) l l (i : Int) = some true := by
    intro m
    induction m with
    | zero =>
      intro i h1 h2
      rw [tithelaw05_same.l0, if_neg (by omega)]
    | succ m ih =>
      intro i h1 h2
      rw [tithelaw05_same.l0, if_pos (by omega), if_pos (by omega), if_pos (by omega), if_pos rfl, w1 i (by omega)]
      exact ih (i + 1) (by omega) (by omega)
  refine ⟨l.length + 1, ?_⟩
  unfold tithelaw05_same.f
  rw [if_pos rfl]
  exact key l.length 0 (by omega) (by omega)
/-- at the end: All, the list's numbers, the same -/
def Pz (w : World) (c : Nat) (L : List En) (A : Option Addr) (cap : Nat) (D1 : Option Addr) (d1 : Nat) (us : List Int) (W : World) : Prop :=
  Pl w c L A cap W ∧ Kd.C (Kd.int .i64) W D1 us.length us ∧ us.length ≤ d1
theorem Pl.calls_all (h : Pl w c L A cap W) :
    Calls Tryd.prog 37 #[.pointer (some ⟨c, 0, none⟩)] W fun e W' => ∃ D1 d1, e = .returned (.slice D1 (L.map (·.1)).length d1) ∧ Pz w c L A cap D1 d1 (L.map (·.1)) W' := by
  refine (hs_all h.1).mono ?_
  rintro e W' ⟨v, rfl, hr, hb⟩
  obtain ⟨D1, d1, rfl⟩ := Kd.R_slice hr
  have h3 := Kd.R_reads' hr
  exact ⟨D1, d1, rfl, h.below hb, h3.2.2, h3.2.1⟩
theorem Pz.calls_ids {D1 : Option Addr} {d1 : Nat} (h : Pz w c L A cap D1 d1 us W) (hl : L.length ≤ 1000000) :
    Calls Tryd.prog 38 #[.slice A L.length cap] W fun e W' => ∃ D2 d2, e = .returned (.slice D2 (L.map (·.1)).length d2) ∧ Pz w c L A cap D1 d1 us W' ∧ Kd.C (Kd.int .i64) W' D2 (L.map (·.1)).length (L.map (·.1)) ∧ (L.map (·.1)).length ≤ d2 := by
  obtain ⟨k, hf⟩ := (ids_f L hl).ex
  have hc := Kd.R_reads' h.1.2.1
  have := tithelaw05_ids.calls k A cap (L.map mk) _ W hc.2.2 (by rw [← hc.1]; exact hc.2.1) hf
  rw [List.length_map (f := mk)] at this
  refine this.mono ?_
  rintro e W' ⟨v, rfl, hr, hb⟩
  obtain ⟨D2, d2, rfl⟩ := Kd.R_slice hr
  have h3 := Kd.R_reads' hr
  exact ⟨D2, d2, rfl, ⟨h.1.below hb, Kd.C_below h.2.1 hb, h.2.2⟩, h3.2.2, h3.2.1⟩
theorem Pz.calls_same {D1 D2 : Option Addr} {d1 d2 : Nat} (h : Pz w c L A cap D1 d1 us W) (hl : us.length ≤ 1000000) (hD : Kd.C (Kd.int .i64) W D2 us.length us) (hcd : us.length ≤ d2) :
    Calls Tryd.prog 36 #[.slice D1 us.length d1, .slice D2 us.length d2] W fun e W' => e = .returned (.bool true) ∧ Pl w c L A cap W' := by
  obtain ⟨k, hf⟩ := same_l0 us hl
  refine (tithelaw05_same.calls k D1 d1 us D2 d2 us true W h.2.1 h.2.2 hD hcd hf).mono ?_
  rintro e W' ⟨rfl, n, rfl⟩
  exact ⟨rfl, h.1.drewN n⟩
end
end Go.Proofs.YtfmchkplnglepaaDoor.R05
