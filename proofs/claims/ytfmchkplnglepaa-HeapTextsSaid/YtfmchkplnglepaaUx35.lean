/- Proved here: what the machine does at HeapTexts: it answers true (a walk by hand, over the heap's contracts). No conditions. -/
import Derived.Test.YtfmchkplnglepaaHpTxT
import Derived.Test.YtfmchkplnglepaaHpSureI
namespace Go.Proofs.Ytfmchkplnglepaa.U
open Go.RowKit Go.Proofs.YtfmchkplnglepaaW.PrintWords Go.Proofs.YtfmchkplnglepaaW.PrintLast Go.Proofs.YtfmchkplnglepaaW.PrintMore
open Go Go.Proofs.Ytfmchkplnglepaa.HpT
set_option linter.unusedVariables false
set_option linter.unusedSimpArgs false
namespace Tx5
/-- the texts' numbers -/
def kAt (l : List ByteArray) (i : Int) : ByteArray := rdOf ByteArray.empty l i
def In1 (l : List ByteArray) (i : Int) (L : List En) : Prop := (L.length : Int) = i ∧ ∀ e ∈ L, 0 ≤ e.1 ∧ e.1 < i ∧ e.2 = kAt l e.1
theorem in1_ins {l : List ByteArray} {i : Int} {L : List En} (h : In1 l i L) (h0 : 0 ≤ i) : In1 l (i + 1) (ins (i, kAt l i) L) ∧ i ∉ L.map (·.1) ∧ i ∈ (ins (i, kAt l i) L).map (·.1) := by
  have hp := ins_perm (i, kAt l i) L
  refine ⟨⟨by rw [hp.length_eq]; simp; exact h.1, fun e he => ?_⟩, ?_, ?_⟩
  · rcases List.mem_cons.1 (hp.mem_iff.1 he) with rfl | he
    · exact ⟨h0, by show i < i + 1; omega, rfl⟩
    · have := h.2 e he; exact ⟨this.1, by omega, this.2.2⟩
  · intro hc
    obtain ⟨e, he, e2⟩ := List.mem_map.1 hc
    have := h.2 e he
    omega
  · exact List.mem_map.2 ⟨(i, kAt l i), hp.mem_iff.2 (List.mem_cons_self ..), rfl⟩
/-- what is left, behind the last that came -/
def In2 (l : List ByteArray) (last : En) (L : List En) : Prop := L.length ≤ 200 ∧ (∀ e ∈ L, 0 ≤ e.1 ∧ e.1 < (l.length : Int) ∧ e.2 = kAt l e.1) ∧ ∀ e ∈ L, bef last e = true
theorem in2_start {l : List ByteArray} {i : Int} {L : List En} (h : In1 l i L) (h2 : i ≤ 200) (h3 : i ≤ (l.length : Int)) : In2 l (-1, ByteArray.empty) L := by
  refine ⟨by have := h.1; omega, fun e he => ?_, fun e he => ?_⟩
  · have := h.2 e he; exact ⟨this.1, by omega, this.2.2⟩
  · have := h.2 e he
    rw [bef_iff]
    have e0 : (ByteArray.empty).toList = [] := by rw [ByteArray.toList_eq]; rfl
    show Op.bytesLess ByteArray.empty.toList e.2.toList = true ∨ (ByteArray.empty.toList = e.2.toList ∧ (-1 : Int) < e.1)
    rw [e0]
    cases h4 : e.2.toList with
    | nil => right; exact ⟨rfl, by omega⟩
    | cons a r => left; rfl
theorem in2_step {l : List ByteArray} {last x : En} {r : List En} (h : In2 l last (x :: r)) (hs : Srt (x :: r)) :
    In2 l x r ∧ (0 ≤ x.1 ∧ x.1 < (l.length : Int) ∧ x.2 = kAt l x.1) ∧ Op.bytesLess x.2.toList last.2.toList = false ∧ ((x.2.toList == last.2.toList) = true → last.1 < x.1) := by
  have hx := h.2.2 x (List.mem_cons_self ..)
  have hb := (bef_iff last x).1 hx
  refine ⟨⟨by have := h.1; simp at this; omega, fun e he => h.2.1 e (List.mem_cons_of_mem _ he), srt_head hs⟩, h.2.1 x (List.mem_cons_self ..), ?_, fun e => ?_⟩
  · rcases hb with hb | ⟨e, _⟩
    · exact bl_asymm hb
    · rw [e]; exact bl_irr _
  · rw [beq_iff_eq] at e
    rcases hb with hb | ⟨_, hb⟩
    · rw [e, bl_irr] at hb; cases hb
    · exact hb
set_option maxHeartbeats 16000000 in
set_option maxRecDepth 100000 in
theorem texts_calls (A0 : Option Addr) (c0 : Nat) (l0 : List ByteArray) (w : World) (hr0 : Kd.C Kd.string w A0 l0.length l0) (hlen : l0.length ≤ 9223372036854775807) :
    Calls Try.prog 3 #[.slice A0 l0.length c0] w fun e w' => e = .returned (.bool true) ∧ Below w.heap.size w w' := by
  have huP := Try.underlying23
  have hus := Try.underlying9
  have HR0 := Aside0.mk hr0
  have HL0 := Aside0.mk hlen
  clear hr0 hlen
  go_enter Try.func3, Try.ntmps3
  go_wp2_with (first
    | (go_at_call 6; refine (tx_new (w := w) (Below.refl _ _)).mono ?_; rintro e w1 ⟨g, rfl, hh⟩; have HT := Aside0.mk hh; clear hh)
    | go_in)
  go_loopg [4] (l0.length + 1) (fun kq v4 w' => ∃ (i : Int) (L : List En), v4 = .int .i64 i ∧ Aside0 ((kq : Int) + i = l0.length + 1 ∧ 0 ≤ i ∧ i ≤ l0.length ∧ i ≤ 200) ∧ Aside0 (In1 l0 i L) ∧ Aside0 (Tx w g L w'))
  case atStart => exact ⟨0, [], rfl, ⟨by omega⟩, ⟨rfl, fun e h => absurd h (by simp)⟩, HT⟩
  case round =>
    clear HT
    obtain ⟨i, L, rfl, HI, HN, HT⟩ := hrel
    cases gk with
    | zero => exact absurd HI.out (by omega)
    | succ k2 =>
      by_cases q1 : i < (l0.length : Int) ∧ i < 200
      · have c1b : decide (i < (l0.length : Int)) = true := decide_eq_true q1.1
        have c2b : decide (i < 200) = true := decide_eq_true q1.2
        have HM := Aside0.mk (show k2 < k2 + 1 ∧ (k2 : Int) + (i + 1) = l0.length + 1 ∧ 0 ≤ i + 1 ∧ i + 1 ≤ l0.length ∧ i + 1 ≤ 200 from ⟨by omega, by have := HI.out; omega, by have := HI.out; omega, by omega, by omega⟩)
        obtain ⟨ad, e, x0⟩ := Kd.at_string HR0.out i HI.out.2.1 q1.1
        cases e
        replace x0 := (HT.out.bel.cell (World.block_lt_of_cell? w _ x0)).trans x0
        obtain ⟨a1, a2, a3⟩ := in1_ins HN.out HI.out.2.1
        have HA := Aside0.mk (show In1 l0 (i + 1) (ins (i, kAt l0 i) L) ∧ i ∉ L.map (·.1) ∧ i ∈ (ins (i, kAt l0 i) L).map (·.1) ∧ L.length < 1000000 ∧ (ins (i, kAt l0 i) L).length < 1000000 ∧ (-9223372036854775808 ≤ i ∧ i ≤ 9223372036854775807) from
          ⟨a1, a2, a3, by have := HN.out.1; omega, by have := a1.1; omega, by have := HI.out; omega⟩)
        obtain ⟨ky, hky⟩ : ∃ x, kAt l0 i = x := ⟨_, rfl⟩
        have x1 : _ = some (Value.string (kAt l0 i)) := x0
        rw [hky] at HA x1
        have p0 : (0 ≤ i) = True := eq_true HI.out.2.1
        have p1 : (i < (l0.length : Int)) = True := eq_true q1.1
        have hw_ := Aside0.mk (show wrap64 (i + 1) = i + 1 by have := HI.out; unfold wrap64; omega)
        clear HI q1 a1 a2 a3 x0 hky HN
        have hw := hw_.out
        go_wp2_with (first
          | (go_at_call 7; (with_reducible refine (Tx.pushN (w := w) (g := g) (L := L) ?i1 i ky ?i2 ?i3 ?i4).mono ?_); (case i1 => exact HT.out); (case i2 => exact HA.out.2.2.2.1); (case i3 => exact HA.out.2.2.2.2.2); (case i4 => exact HA.out.2.1); rintro e w2 ⟨rfl, hh⟩; have HT2 := Aside0.mk hh; clear hh)
          | (go_at_call 7; (with_reducible refine (Tx.pushE (w := w) (g := g) (L := ins (i, ky) L) ?i1 i ⟨#[]⟩ ?i2 ?i3 ?i4).mono ?_); (case i1 => exact HT2.out); (case i2 => exact HA.out.2.2.2.2.1); (case i3 => exact HA.out.2.2.2.2.2); (case i4 => exact HA.out.2.2.1); rintro e w3 ⟨rfl, hh⟩; have HT3 := Aside0.mk hh; clear hh)
          | go_in)
        go_roundg k2
        case measure => exact HM.out.1
        case rel => exact ⟨i + 1, ins (i, ky) L, by first | rfl | (simp; done) | (simp [*]; done), ⟨HM.out.2⟩, ⟨HA.out.1⟩, HT3⟩
      · by_cases q2 : i < (l0.length : Int)
        · have c1b : decide (i < (l0.length : Int)) = true := decide_eq_true q2
          have c2b : decide (i < 200) = false := decide_eq_false (fun h => q1 ⟨q2, h⟩)
          have HN2 := Aside0.mk (in2_start HN.out HI.out.2.2.2 HI.out.2.2.1)
          clear HI HN q1 q2
          go_wp2_with (first | go_in)
          go_loopg [5, 6] 201 (fun kq v5 v6 w' => ∃ (li : Int) (lk : ByteArray) (M : List En), v5 = .string lk ∧ v6 = .int .i64 li ∧ Aside0 (M.length < kq) ∧ Aside0 (In2 l0 (li, lk) M) ∧ Aside0 (Tx w g M w'))
          case atStart => exact ⟨-1, ByteArray.empty, L, rfl, rfl, ⟨by have := HN2.out.1; omega⟩, HN2, HT⟩
          case round =>
            clear HT HN2
            obtain ⟨li, lk, M, rfl, rfl, HI, HN, HT⟩ := hrel
            cases gk with
            | zero => exact absurd HI.out (by omega)
            | succ k2 =>
              cases M with
              | nil =>
                go_wp2_with (first
                  | (go_at_call 8; refine (Tx.len HT.out).mono ?_; rintro e w3 ⟨rfl, hh⟩; have HT3 := Aside0.mk hh; clear hh; simp only [List.length_nil])
                  | (go_at_call 10; refine (Go.Proofs.Ytfmchkplnglepaa.HpI.sure5 _).mono ?_; rintro e w4 ⟨rfl, hb⟩; have HF := Aside0.mk (below_step HT3.out.bel hb); clear hb)
                  | go_in)
                go_ret
                exact ⟨rfl, HF.out⟩
              | cons x r =>
                obtain ⟨xi, kx⟩ := x
                obtain ⟨h1, h2, h3, h4⟩ := in2_step HN.out HT.out.1.srt
                have h2a : 0 ≤ xi := h2.1
                have h2b : xi < (l0.length : Int) := h2.2.1
                have h2c : kx = kAt l0 xi := h2.2.2
                obtain ⟨n, hn⟩ : ∃ n, r.length = n := ⟨_, rfl⟩
                obtain ⟨n1, hn1⟩ : ∃ n1, ((xi, kx) :: r).length = n1 := ⟨_, rfl⟩
                have hnn : n1 = n + 1 := by rw [← hn1, ← hn]; rfl
                have hsm : n ≤ 200 := by have := h1.1; omega
                have HNN := Aside0.mk (show ((xi, kx) :: r).length = n1 ∧ r.length = n from ⟨hn1, hn⟩)
                have HNX := Aside0.mk (show k2 < k2 + 1 ∧ r.length < k2 ∧ In2 l0 (xi, kx) r from ⟨by omega, by have := HI.out; simp at this; omega, h1⟩)
                have d0 : decide (0 < (n1 : Int)) = true := decide_eq_true (by omega)
                have d0' : decide (0 < n1) = true := decide_eq_true (by omega)
                have e1_ := Aside0.mk (show wrap64 ((n1 : Int) - 1) = (n : Int) by rw [hnn]; unfold wrap64; omega)
                have d1 : decide (xi < 0) = false := decide_eq_false (by omega)
                have d2 : decide ((l0.length : Int) ≤ xi) = false := decide_eq_false (by omega)
                obtain ⟨ad, e, x0⟩ := Kd.at_string HR0.out xi h2a h2b
                cases e
                have x1 : _ = some (Value.string (kAt l0 xi)) := x0
                rw [← h2c] at x1
                have HX0 := Aside0.mk x1
                clear x1
                have p0 : (0 ≤ xi) = True := eq_true h2a
                have p1 : (xi < (l0.length : Int)) = True := eq_true h2b
                have h3' : Op.bytesLess kx.toList lk.toList = false := h3
                have H4 := Aside0.mk (show (kx.toList == lk.toList) = true → li < xi from h4)
                clear h1 h2 h2a h2b h2c h3 h4 hn hn1 hnn hsm x0 HN HI
                cases h5 : (kx.toList == lk.toList) with
                | true =>
                  have d3 : decide (xi ≤ li) = false := decide_eq_false (by have := H4.out h5; omega)
                  have e1 := e1_.out
                  go_wp2_with (first
                    | (go_at_call 8; (with_reducible refine (Tx.len (w := w) (g := g) (L := (xi, kx) :: r) ?i1).mono ?_); (case i1 => first | exact HT4.out | exact HT.out); rintro e w3 ⟨rfl, hh⟩; rw [HNN.out.1]; have HT4 := Aside0.mk hh; clear hh)
                    | (go_at_call 9; (with_reducible refine (Tx.pop (w := w) (g := g) (L := (xi, kx) :: r) ?i1).mono ?_); (case i1 => exact HT4.out); rintro e w5 ⟨rfl, hh⟩; have HT5 := Aside0.mk hh; clear hh; simp only [first3])
                    | (go_at_call 8; (with_reducible refine (Tx.len (w := w) (g := g) (L := r) ?i1).mono ?_); (case i1 => exact HT5.out); rintro e w6 ⟨rfl, hh⟩; rw [HNN.out.2]; have HT6 := Aside0.mk hh; have x2 := (HT6.out.bel.cell (World.block_lt_of_cell? w _ HX0.out)).trans HX0.out; clear hh)
                    | go_in)
                  go_roundg k2
                  case measure => exact HNX.out.1
                  case rel => exact ⟨xi, kx, r, by first | rfl | (simp; done) | (simp [*]; done), by first | rfl | (simp; done) | (simp [*]; done), ⟨HNX.out.2.1⟩, ⟨HNX.out.2.2⟩, HT6⟩
                | false =>
                  have e1 := e1_.out
                  go_wp2_with (first
                    | (go_at_call 8; (with_reducible refine (Tx.len (w := w) (g := g) (L := (xi, kx) :: r) ?i1).mono ?_); (case i1 => first | exact HT4.out | exact HT.out); rintro e w3 ⟨rfl, hh⟩; rw [HNN.out.1]; have HT4 := Aside0.mk hh; clear hh)
                    | (go_at_call 9; (with_reducible refine (Tx.pop (w := w) (g := g) (L := (xi, kx) :: r) ?i1).mono ?_); (case i1 => exact HT4.out); rintro e w5 ⟨rfl, hh⟩; have HT5 := Aside0.mk hh; clear hh; simp only [first3])
                    | (go_at_call 8; (with_reducible refine (Tx.len (w := w) (g := g) (L := r) ?i1).mono ?_); (case i1 => exact HT5.out); rintro e w6 ⟨rfl, hh⟩; rw [HNN.out.2]; have HT6 := Aside0.mk hh; have x2 := (HT6.out.bel.cell (World.block_lt_of_cell? w _ HX0.out)).trans HX0.out; clear hh)
                    | go_in)
                  go_roundg k2
                  case measure => exact HNX.out.1
                  case rel => exact ⟨xi, kx, r, by first | rfl | (simp; done) | (simp [*]; done), by first | rfl | (simp; done) | (simp [*]; done), ⟨HNX.out.2.1⟩, ⟨HNX.out.2.2⟩, HT6⟩
        · have c1b : decide (i < (l0.length : Int)) = false := decide_eq_false q2
          have HN2 := Aside0.mk (in2_start HN.out HI.out.2.2.2 HI.out.2.2.1)
          clear HI HN q1 q2
          go_wp2_with (first | go_in)
          go_loopg [5, 6] 201 (fun kq v5 v6 w' => ∃ (li : Int) (lk : ByteArray) (M : List En), v5 = .string lk ∧ v6 = .int .i64 li ∧ Aside0 (M.length < kq) ∧ Aside0 (In2 l0 (li, lk) M) ∧ Aside0 (Tx w g M w'))
          case atStart => exact ⟨-1, ByteArray.empty, L, rfl, rfl, ⟨by have := HN2.out.1; omega⟩, HN2, HT⟩
          case round =>
            clear HT HN2
            obtain ⟨li, lk, M, rfl, rfl, HI, HN, HT⟩ := hrel
            cases gk with
            | zero => exact absurd HI.out (by omega)
            | succ k2 =>
              cases M with
              | nil =>
                go_wp2_with (first
                  | (go_at_call 8; refine (Tx.len HT.out).mono ?_; rintro e w3 ⟨rfl, hh⟩; have HT3 := Aside0.mk hh; clear hh; simp only [List.length_nil])
                  | (go_at_call 10; refine (Go.Proofs.Ytfmchkplnglepaa.HpI.sure5 _).mono ?_; rintro e w4 ⟨rfl, hb⟩; have HF := Aside0.mk (below_step HT3.out.bel hb); clear hb)
                  | go_in)
                go_ret
                exact ⟨rfl, HF.out⟩
              | cons x r =>
                obtain ⟨xi, kx⟩ := x
                obtain ⟨h1, h2, h3, h4⟩ := in2_step HN.out HT.out.1.srt
                have h2a : 0 ≤ xi := h2.1
                have h2b : xi < (l0.length : Int) := h2.2.1
                have h2c : kx = kAt l0 xi := h2.2.2
                obtain ⟨n, hn⟩ : ∃ n, r.length = n := ⟨_, rfl⟩
                obtain ⟨n1, hn1⟩ : ∃ n1, ((xi, kx) :: r).length = n1 := ⟨_, rfl⟩
                have hnn : n1 = n + 1 := by rw [← hn1, ← hn]; rfl
                have hsm : n ≤ 200 := by have := h1.1; omega
                have HNN := Aside0.mk (show ((xi, kx) :: r).length = n1 ∧ r.length = n from ⟨hn1, hn⟩)
                have HNX := Aside0.mk (show k2 < k2 + 1 ∧ r.length < k2 ∧ In2 l0 (xi, kx) r from ⟨by omega, by have := HI.out; simp at this; omega, h1⟩)
                have d0 : decide (0 < (n1 : Int)) = true := decide_eq_true (by omega)
                have d0' : decide (0 < n1) = true := decide_eq_true (by omega)
                have e1_ := Aside0.mk (show wrap64 ((n1 : Int) - 1) = (n : Int) by rw [hnn]; unfold wrap64; omega)
                have d1 : decide (xi < 0) = false := decide_eq_false (by omega)
                have d2 : decide ((l0.length : Int) ≤ xi) = false := decide_eq_false (by omega)
                obtain ⟨ad, e, x0⟩ := Kd.at_string HR0.out xi h2a h2b
                cases e
                have x1 : _ = some (Value.string (kAt l0 xi)) := x0
                rw [← h2c] at x1
                have HX0 := Aside0.mk x1
                clear x1
                have p0 : (0 ≤ xi) = True := eq_true h2a
                have p1 : (xi < (l0.length : Int)) = True := eq_true h2b
                have h3' : Op.bytesLess kx.toList lk.toList = false := h3
                have H4 := Aside0.mk (show (kx.toList == lk.toList) = true → li < xi from h4)
                clear h1 h2 h2a h2b h2c h3 h4 hn hn1 hnn hsm x0 HN HI
                cases h5 : (kx.toList == lk.toList) with
                | true =>
                  have d3 : decide (xi ≤ li) = false := decide_eq_false (by have := H4.out h5; omega)
                  have e1 := e1_.out
                  go_wp2_with (first
                    | (go_at_call 8; (with_reducible refine (Tx.len (w := w) (g := g) (L := (xi, kx) :: r) ?i1).mono ?_); (case i1 => first | exact HT4.out | exact HT.out); rintro e w3 ⟨rfl, hh⟩; rw [HNN.out.1]; have HT4 := Aside0.mk hh; clear hh)
                    | (go_at_call 9; (with_reducible refine (Tx.pop (w := w) (g := g) (L := (xi, kx) :: r) ?i1).mono ?_); (case i1 => exact HT4.out); rintro e w5 ⟨rfl, hh⟩; have HT5 := Aside0.mk hh; clear hh; simp only [first3])
                    | (go_at_call 8; (with_reducible refine (Tx.len (w := w) (g := g) (L := r) ?i1).mono ?_); (case i1 => exact HT5.out); rintro e w6 ⟨rfl, hh⟩; rw [HNN.out.2]; have HT6 := Aside0.mk hh; have x2 := (HT6.out.bel.cell (World.block_lt_of_cell? w _ HX0.out)).trans HX0.out; clear hh)
                    | go_in)
                  go_roundg k2
                  case measure => exact HNX.out.1
                  case rel => exact ⟨xi, kx, r, by first | rfl | (simp; done) | (simp [*]; done), by first | rfl | (simp; done) | (simp [*]; done), ⟨HNX.out.2.1⟩, ⟨HNX.out.2.2⟩, HT6⟩
                | false =>
                  have e1 := e1_.out
                  go_wp2_with (first
                    | (go_at_call 8; (with_reducible refine (Tx.len (w := w) (g := g) (L := (xi, kx) :: r) ?i1).mono ?_); (case i1 => first | exact HT4.out | exact HT.out); rintro e w3 ⟨rfl, hh⟩; rw [HNN.out.1]; have HT4 := Aside0.mk hh; clear hh)
                    | (go_at_call 9; (with_reducible refine (Tx.pop (w := w) (g := g) (L := (xi, kx) :: r) ?i1).mono ?_); (case i1 => exact HT4.out); rintro e w5 ⟨rfl, hh⟩; have HT5 := Aside0.mk hh; clear hh; simp only [first3])
                    | (go_at_call 8; (with_reducible refine (Tx.len (w := w) (g := g) (L := r) ?i1).mono ?_); (case i1 => exact HT5.out); rintro e w6 ⟨rfl, hh⟩; rw [HNN.out.2]; have HT6 := Aside0.mk hh; have x2 := (HT6.out.bel.cell (World.block_lt_of_cell? w _ HX0.out)).trans HX0.out; clear hh)
                    | go_in)
                  go_roundg k2
                  case measure => exact HNX.out.1
                  case rel => exact ⟨xi, kx, r, by first | rfl | (simp; done) | (simp [*]; done), by first | rfl | (simp; done) | (simp [*]; done), ⟨HNX.out.2.1⟩, ⟨HNX.out.2.2⟩, HT6⟩
end Tx5
def tithelaw05_HeapTexts.f (l0 : List ByteArray) : Option Bool := if l0.length ≤ 9223372036854775807 then some true else none
theorem tithelaw05_HeapTexts.calls (A0 : Option Addr) (c0 : Nat) (l0 : List ByteArray) (r : Bool) (w : World) (hr0 : Kd.C Kd.string w A0 l0.length l0) (hc0 : l0.length ≤ c0) (h : tithelaw05_HeapTexts.f l0 = some r) :
    Calls Try.prog 3 #[.slice A0 l0.length c0] w fun e w' => e = .returned (.bool r) ∧ Below w.heap.size w w' := by
  unfold tithelaw05_HeapTexts.f at h
  by_cases hl : l0.length ≤ 9223372036854775807
  · rw [if_pos hl] at h
    obtain rfl := Option.some.inj h
    exact Tx5.texts_calls A0 c0 l0 w hr0 hl
  · rw [if_neg hl] at h
    cases h
end Go.Proofs.Ytfmchkplnglepaa.U
