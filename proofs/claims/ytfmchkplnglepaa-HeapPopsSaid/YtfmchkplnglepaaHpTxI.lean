/- A heap that a call has made, beside what was there when the call began. No conditions. -/
import Derived.Test.YtfmchkplnglepaaHpSpecI
namespace Go.Proofs.Ytfmchkplnglepaa.HpI
open Go.RowKit Go.Proofs.YtfmchkplnglepaaW.PrintWords Go.Proofs.YtfmchkplnglepaaW.PrintLast Go.Proofs.YtfmchkplnglepaaW.PrintMore
open Go Go.Proofs.Ytfmchkplnglepaa.Hp
set_option linter.unusedVariables false
set_option linter.unusedSimpArgs false
theorem HS.srt {P : Nat → Prop} {g : Nat} {L : List En} {W : World} (h : HS P g L W) : Srt L := by
  obtain ⟨es, h1, h2⟩ := h
  exact h2.2.2
theorem Off.toBelow {w W : World} (h : Off (fun k => w.heap.size ≤ k) w W) : Below w.heap.size w W := ⟨h.1, h.2.1, h.2.2.1, h.2.2.2.1, fun k hk => h.2.2.2.2 k hk (Nat.not_le.2 hk)⟩
/-- a heap at block g that holds L, made since w -/
def Tx (w : World) (g : Nat) (L : List En) (W : World) : Prop := HS (fun k => w.heap.size ≤ k) g L W ∧ Off (fun k => w.heap.size ≤ k) w W
section
variable {w W : World} {g : Nat} {L : List En}
theorem Tx.bel (h : Tx w g L W) : Below w.heap.size w W := h.2.toBelow
theorem Tx.below {W1 : World} (h : Tx w g L W) (hb : Below W.heap.size W W1) : Tx w g L W1 := ⟨h.1.off (fun k hk _ => hb.block k hk), h.2.below hb⟩
theorem Tx.drewN (h : Tx w g L W) (n : Nat) : Tx w g L (W.drewN n) := h.below (pw_below_drewN (Below.refl _ _) n)
theorem Tx.drew (h : Tx w g L W) : Tx w g L W.drew := h.below (below_drew1 (Below.refl _ _))
theorem Tx.alloc (h : Tx w g L W) (o : Obj) : Tx w g L (W.alloc o) := h.below (below_alloc (Below.refl _ _) o)
theorem tx_new {w W : World} (h : Below w.heap.size w W) : Calls Try.prog 17 #[] W fun e W' => ∃ g : Nat, e = .returned (.pointer (some ⟨g, 0, none⟩)) ∧ Tx w g [] W' := by
  refine (hs_new (P := fun k => w.heap.size ≤ k) (W := W) (fun k hk => Nat.le_trans h.size hk)).mono ?_
  rintro e W' ⟨g, rfl, hh, ho⟩
  exact ⟨g, rfl, hh, ((Off.refl _ w).trans ⟨h.os, h.tape, h.output, h.size, fun k hk hn => h.block k (Nat.lt_of_not_le hn)⟩).trans ho⟩
theorem Tx.len (h : Tx w g L W) : Calls Try.prog 20 #[.pointer (some ⟨g, 0, none⟩)] W fun e W' => e = .returned (.int .i64 (L.length : Int)) ∧ Tx w g L W' := by
  refine (hs_len h.1).mono ?_
  rintro e W' ⟨rfl, rfl⟩
  exact ⟨rfl, h⟩
theorem Tx.min (h : Tx w g L W) : Calls Try.prog 25 #[.pointer (some ⟨g, 0, none⟩)] W fun e W' => e = .returned (.tuple #[.int .i64 (first3 L).1, .int .i64 (first3 L).2.1, .bool (first3 L).2.2]) ∧ Tx w g L W' := by
  refine (hs_min h.1).mono ?_
  rintro e W' ⟨rfl, n, rfl⟩
  exact ⟨rfl, h.drewN n⟩
theorem Tx.pop (h : Tx w g L W) : Calls Try.prog 21 #[.pointer (some ⟨g, 0, none⟩)] W fun e W' => e = .returned (.tuple #[.int .i64 (first3 L).1, .int .i64 (first3 L).2.1, .bool (first3 L).2.2]) ∧ Tx w g L.tail W' := by
  refine (hs_pop h.1).mono ?_
  rintro e W' ⟨rfl, hh, ho⟩
  exact ⟨rfl, hh, h.2.trans ho⟩
theorem Tx.pushN (h : Tx w g L W) (id : Int) (key : Int) (hl : L.length < 1000000) (hw : -9223372036854775808 ≤ id ∧ id ≤ 9223372036854775807) (hn : id ∉ L.map (·.1)) :
    Calls Try.prog 18 #[.pointer (some ⟨g, 0, none⟩), .int .i64 id, .int .i64 key] W fun e W' => e = .returned .nilIface ∧ Tx w g (ins (id, key) L) W' := by
  refine (hs_push h.1 (fun k hk => Nat.le_trans h.2.2.2.2.1 hk) hl (id, key) hw).mono ?_
  intro e W' hh
  have h1 := hh.2 hn
  exact ⟨h1.1, h1.2.1, h.2.trans h1.2.2⟩
theorem Tx.pushE (h : Tx w g L W) (id : Int) (key : Int) (hl : L.length < 1000000) (hw : -9223372036854775808 ≤ id ∧ id ≤ 9223372036854775807) (hn : id ∈ L.map (·.1)) :
    Calls Try.prog 18 #[.pointer (some ⟨g, 0, none⟩), .int .i64 id, .int .i64 key] W fun e W' => e = .returned (.iface 58 (.int .i64 1)) ∧ Tx w g L W' := by
  refine (hs_push h.1 (fun k hk => Nat.le_trans h.2.2.2.2.1 hk) hl (id, key) hw).mono ?_
  intro e W' hh
  obtain ⟨rfl, rfl⟩ := hh.1 hn
  exact ⟨rfl, h⟩
end
end Go.Proofs.Ytfmchkplnglepaa.HpI
