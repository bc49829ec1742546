/- Proved here: what the machine does at AdmitTwins: it answers true (a walk by hand, over the contracts of the book's methods). No conditions. -/
import Derived.Test.YtaoicceakgipgaaDoorTx0
import Derived.Test.YtaoicceakgipgaaDoorTx2
import Derived.Test.YtaoicceakgipgaaDoorTx3
import Derived.Test.YtaoicceakgipgaaDoorTx4
import Derived.Test.YtaoicceakgipgaaDoorTx5
import Derived.Test.YtaoicceakgipgaaDoorTx6
import Derived.Test.YtaoicceakgipgaaDoorTx7
import Derived.Test.YtaoicceakgipgaaDoorTx8
import Derived.Test.YtaoicceakgipgaaDoorAdmRel
import Derived.Deep.WholeRow
namespace Go.Proofs.YtaoicceakgipgaaDoor.T
open Go.RowKit Go.Proofs.YtaoicceakgipgaaDoorW.PrintWords Go.Proofs.YtaoicceakgipgaaDoorW.PrintLast Go.Proofs.YtaoicceakgipgaaDoorW.PrintMore
attribute [local go_sem] max2_int min2_int max_two min_two max_three min_three max_four min_four   -- for this text's walks alone
set_option linter.unusedVariables false
set_option linter.unusedSimpArgs false
namespace Tw
section
attribute [local go_sem high] bkEq
set_option maxHeartbeats 16000000 in
set_option maxRecDepth 100000 in
theorem bk_Twin (g : Nat) (b0 : List S28) (w0 w : World) (hI : IsS61 w0 w g b0) (hB : Below w0.heap.size w0 w) :
    Calls Tryd.prog 20 #[.pointer (some ⟨g, 0, none⟩)] w fun e w' => e = .returned (.pointer (some ⟨w.heap.size, 0, none⟩)) ∧ w' = w.alloc (.cells (bkc b0) 61) := by
  have hu23 := Tryd.underlying23
  have hgc := hI.1
  have hsz : (bkc b0).size = 256 := by
    have e2 := bkl_len b0
    rw [hI.2.2.2] at e2
    simp [bkc, e2]
  have hn : (Tryd.prog.info? 61).map (·.size) = some (bkc b0).size := by
    rw [hsz]; kernel_rfl
  have h1 : (bkc b0).all (·.oneCell') = true := by
    unfold bkc
    rw [List.all_toArray]
    rw [List.all_eq_true]
    intro v hv
    obtain ⟨c, _, hc⟩ := List.mem_flatMap.1 hv
    simp only [clc, List.mem_cons, List.not_mem_nil, or_false] at hc
    rcases hc with rfl | rfl | rfl | rfl <;> rfl
  obtain ⟨Z, hZ⟩ : ∃ Z : Array Value, Z = bkc bkNew := ⟨_, rfl⟩
  have hz : ∀ W : World, (zeroValue 61).run Tryd.prog W = .ok (.agg Z) W := by rw [hZ]; intro W; kernel_rfl
  have hZs : Z.size = 256 := by rw [hZ]; have := bkl_len bkNew; simp [bkc, this]; rfl
  generalize hC : bkc b0 = C at *
  have hst := run_storeCells_new (P := Tryd.prog) w 61 Z C hn (by rw [hZs, hsz]) h1
  have HGC := Aside0.mk hgc
  have HN := Aside0.mk hn
  clear hgc hn hZs hC hZ h1 hI hB
  go_enter Tryd.func20, Tryd.ntmps20
  go_wp2_with (first | (refine wpList_load_row rfl 61 (.tmp 7) rfl g rfl 61 C (0, 0) _ HGC.out Tryd.underlying61 rfl HN.out ?_))
  go_ret
  exact ⟨rfl, rfl⟩
/-- a book at block g -/
def St (w : World) (g : Nat) (B : List S28) (W : World) : Prop := IsS61 w W g B ∧ Below w.heap.size w W
theorem St.drew {w : World} {g : Nat} {B : List S28} {W : World} (h : St w g B W) : St w g B W.drew := ⟨h.1, below_drew1 h.2⟩
theorem St.drewN {w : World} {g : Nat} {B : List S28} {W : World} (h : St w g B W) (n : Nat) : St w g B (W.drewN n) := ⟨h.1, pw_below_drewN h.2 n⟩
theorem St.alloc {w : World} {g : Nat} {B : List S28} {W : World} (h : St w g B W) (o : Obj) : St w g B (W.alloc o) := ⟨h.1.alloc o, below_alloc h.2 o⟩
/-- a list that is only read, in blocks that P lets in -/
def Ro (P : Nat → Prop) (A : Option Addr) (c : Nat) (l : List S51) (W : World) : Prop := ∀ n, Kd.V k51 51 W n P (.slice A l.length c) l
theorem Ro.of {P : Nat → Prop} {A : Option Addr} {c n : Nat} {l : List S51} {W : World} (h : Kd.V k51 51 W n P (.slice A l.length c) l) : Ro P A c l W := fun _ => Kd.V_map h (fun _ hf => hf)
theorem Ro.drewN {P : Nat → Prop} {A : Option Addr} {c : Nat} {l : List S51} {W : World} (h : Ro P A c l W) (n : Nat) : Ro P A c l (W.drewN n) := fun m => Kd.V_drewN (h m) n
theorem Ro.drew {P : Nat → Prop} {A : Option Addr} {c : Nat} {l : List S51} {W : World} (h : Ro P A c l W) : Ro P A c l W.drew := fun m => Kd.V_drew (h m)
theorem Ro.alloc {P : Nat → Prop} {A : Option Addr} {c : Nat} {l : List S51} {W : World} (h : Ro P A c l W) (o : Obj) : Ro P A c l (W.alloc o) := fun m => Kd.V_alloc (h m) o
/-- before the twin -/
def One (w : World) (g : Nat) (B : List S28) (A : Option Addr) (c : Nat) (l : List S51) (W : World) : Prop := St w g B W ∧ Pure.Inv B l ∧ Ro (fun k => k ≠ g) A c l W
section
variable {w W : World} {g t : Nat} {B C : List S28} {A A1 : Option Addr} {c c1 : Nat} {l m : List S51}
theorem One.drewN (h : One w g B A c l W) (n : Nat) : One w g B A c l (W.drewN n) := ⟨h.1.drewN n, h.2.1, h.2.2.drewN n⟩
theorem One.drew (h : One w g B A c l W) : One w g B A c l W.drew := ⟨h.1.drew, h.2.1, h.2.2.drew⟩
theorem One.alloc (h : One w g B A c l W) (o : Obj) : One w g B A c l (W.alloc o) := ⟨h.1.alloc o, h.2.1, h.2.2.alloc o⟩
theorem One.doo (h : One w g B A c l W) (a0 a1 a2 : Int) :
    Calls Tryd.prog 19 #[.pointer (some ⟨g, 0, none⟩), .slice A l.length c, .agg #[.int .i64 a0, .int .i64 a1, .int .i64 a2]] W fun e W' => ∃ A' c' l' B', e = .returned (.tuple #[.slice A' (List.length l') c', .bool true]) ∧ One w g B' A' c' l' W' := by
  obtain ⟨hs, hI, hv⟩ := h
  obtain ⟨l', B', hE, hI'⟩ := Pure.do_rel hI a0 a1 a2
  obtain ⟨k, hk⟩ := hE.ex
  refine (tithelaw08_do.calls k g B (fun k => k ≠ g) A c l a0 a1 a2 l' true B' w W hs.1 hs.2 (Kd.V_mono (hv _) (fun k hk => ⟨hk, hk⟩)) hk).mono ?_
  rintro e W' ⟨v, rfl, hv', hi, hb, hkp⟩
  obtain ⟨A', c', rfl⟩ := Kd.V_slice hv'
  have hlt := hs.1.lt
  exact ⟨A', c', l', B', rfl, ⟨hi, hb⟩, hI', Ro.of (Kd.V_mono hv' (fun k hk => hk.elim id (fun h => by omega)))⟩
/-- behind the twin -/
def Al (w : World) (g t : Nat) (B C : List S28) (A : Option Addr) (c : Nat) (l : List S51) (A1 : Option Addr) (c1 : Nat) (m : List S51) (W : World) : Prop :=
  t ≠ g ∧ St w g B W ∧ St w t C W ∧ Pure.Inv B l ∧ Pure.Inv C m ∧ Ro (fun k => k ≠ g ∧ k ≠ t) A c l W ∧ Ro (fun k => k ≠ g ∧ k ≠ t) A1 c1 m W
theorem Al.drewN (h : Al w g t B C A c l A1 c1 m W) (n : Nat) : Al w g t B C A c l A1 c1 m (W.drewN n) := ⟨h.1, h.2.1.drewN n, h.2.2.1.drewN n, h.2.2.2.1, h.2.2.2.2.1, h.2.2.2.2.2.1.drewN n, h.2.2.2.2.2.2.drewN n⟩
theorem Al.drew (h : Al w g t B C A c l A1 c1 m W) : Al w g t B C A c l A1 c1 m W.drew := ⟨h.1, h.2.1.drew, h.2.2.1.drew, h.2.2.2.1, h.2.2.2.2.1, h.2.2.2.2.2.1.drew, h.2.2.2.2.2.2.drew⟩
theorem Al.alloc (h : Al w g t B C A c l A1 c1 m W) (o : Obj) : Al w g t B C A c l A1 c1 m (W.alloc o) := ⟨h.1, h.2.1.alloc o, h.2.2.1.alloc o, h.2.2.2.1, h.2.2.2.2.1, h.2.2.2.2.2.1.alloc o, h.2.2.2.2.2.2.alloc o⟩
theorem Al.roL (h : Al w g t B C A c l A1 c1 m W) : Ro (fun k => k ≠ g ∧ k ≠ t) A c l W := h.2.2.2.2.2.1
theorem Al.roM (h : Al w g t B C A c l A1 c1 m W) : Ro (fun k => k ≠ g ∧ k ≠ t) A1 c1 m W := h.2.2.2.2.2.2
theorem Al.bel (h : Al w g t B C A c l A1 c1 m W) : Below w.heap.size w W := h.2.1.2
theorem Al.invB (h : Al w g t B C A c l A1 c1 m W) : Pure.Inv B l := h.2.2.2.1
theorem Al.invC (h : Al w g t B C A c l A1 c1 m W) : Pure.Inv C m := h.2.2.2.2.1
theorem One.twin (h : One w g B A c l W) :
    Calls Tryd.prog 20 #[.pointer (some ⟨g, 0, none⟩)] W fun e W' => ∃ t : Nat, e = .returned (.pointer (some ⟨t, 0, none⟩)) ∧ Al w g t B B A c l A c l W' := by
  obtain ⟨hs, hI, hv⟩ := h
  refine (bk_Twin g B w W hs.1 hs.2).mono ?_
  rintro e W' ⟨rfl, rfl⟩
  have hlt := hs.1.lt
  have hr : Ro (fun k => k ≠ g ∧ k ≠ W.heap.size) A c l (W.alloc (.cells (bkc B) 61)) := Ro.of (Kd.V_alloc (Kd.V_mono (Kd.V_bound (hv 0)) (fun k hk => ⟨hk.1, by have := hk.2; omega⟩)) _)
  exact ⟨W.heap.size, rfl, by omega, hs.alloc _, ⟨⟨heap_alloc_new W _, hs.2.size, hs.1.2.2⟩, below_alloc hs.2 _⟩, hI, hI, hr, hr⟩
theorem Al.doo (h : Al w g t B C A c l A1 c1 m W) (a0 a1 a2 : Int) :
    Calls Tryd.prog 19 #[.pointer (some ⟨t, 0, none⟩), .slice A1 m.length c1, .agg #[.int .i64 a0, .int .i64 a1, .int .i64 a2]] W fun e W' => ∃ A' c' m' C', e = .returned (.tuple #[.slice A' (List.length m') c', .bool true]) ∧ Al w g t B C' A c l A' c' m' W' := by
  obtain ⟨hne, hs, ht, hI, hJ, hv, hu⟩ := h
  obtain ⟨m', C', hE, hJ'⟩ := Pure.do_rel hJ a0 a1 a2
  obtain ⟨k, hk⟩ := hE.ex
  refine (tithelaw08_do.calls k t C (fun k => k ≠ g ∧ k ≠ t) A1 c1 m a0 a1 a2 m' true C' w W ht.1 ht.2 (Kd.V_mono (hu _) (fun k hk => ⟨hk, hk.2⟩)) hk).mono ?_
  rintro e W' ⟨v, rfl, hv', hi, hb, hkp⟩
  obtain ⟨A', c', rfl⟩ := Kd.V_slice hv'
  have hlt := hs.1.lt
  have htl := ht.1.lt
  exact ⟨A', c', m', C', rfl, hne, ⟨⟨(hkp.2 g hlt (Ne.symm hne) (by simp)).trans hs.1.1, hs.1.2⟩, hb⟩, ⟨hi, hb⟩, hI, hJ', Ro.of (Kd.V_keep (hv 0) hkp (fun k hk => hk.2)), Ro.of (Kd.V_mono hv' (fun k hk => hk.elim id (fun h => ⟨by omega, by omega⟩)))⟩
/-- a book's list, told beside both books -/
theorem Al.listB (h : Al w g t B C A c l A1 c1 m W) : Calls Tryd.prog 22 #[.pointer (some ⟨g, 0, none⟩)] W fun e W' => ∃ base A' c', e = .returned (.slice A' (List.length (bkL B)) c') ∧ Kd.R k28 28 W' base (fun _ => True) (.slice A' (List.length (bkL B)) c') (bkL B) ∧ base ≤ W'.heap.size ∧ ∀ W2, Below base W' W2 → Al w g t B C A c l A1 c1 m W2 := by
  obtain ⟨hne, hs, ht, hI, hJ, hv, hu⟩ := h
  refine (bk_List.calls g B (bkL B) B w W hs.1 hs.2 rfl).mono ?_
  rintro e W' ⟨v, rfl, hr, hi, hb, hk⟩
  obtain ⟨A', c', rfl⟩ := Kd.R_slice hr
  refine ⟨W.heap.size, A', c', rfl, hr, hk.1, fun W2 h2 => ?_⟩
  have hlt := hs.1.lt
  have htl := ht.1.lt
  have hb2 : Below w.heap.size w W2 := below_weaken hb hs.2.size h2
  exact ⟨hne, ⟨⟨(h2.block g hlt).trans hi.1, hi.2⟩, hb2⟩, ⟨⟨(h2.block t htl).trans ((hk.2 t htl hne (by simp)).trans ht.1.1), ht.1.2⟩, hb2⟩, hI, hJ,
    Ro.of (Kd.V_mono (Kd.V_step (Kd.V_keep (Kd.V_bound (hv 0)) hk (fun k hk => hk.1.1)) (fun k hk _ => h2.block k hk.2)) (fun k hk => hk.1)),
    Ro.of (Kd.V_mono (Kd.V_step (Kd.V_keep (Kd.V_bound (hu 0)) hk (fun k hk => hk.1.1)) (fun k hk _ => h2.block k hk.2)) (fun k hk => hk.1))⟩
theorem Al.listT (h : Al w g t B C A c l A1 c1 m W) : Calls Tryd.prog 22 #[.pointer (some ⟨t, 0, none⟩)] W fun e W' => ∃ base A' c', e = .returned (.slice A' (List.length (bkL C)) c') ∧ Kd.R k28 28 W' base (fun _ => True) (.slice A' (List.length (bkL C)) c') (bkL C) ∧ base ≤ W'.heap.size ∧ ∀ W2, Below base W' W2 → Al w g t B C A c l A1 c1 m W2 := by
  obtain ⟨hne, hs, ht, hI, hJ, hv, hu⟩ := h
  refine (bk_List.calls t C (bkL C) C w W ht.1 ht.2 rfl).mono ?_
  rintro e W' ⟨v, rfl, hr, hi, hb, hk⟩
  obtain ⟨A', c', rfl⟩ := Kd.R_slice hr
  refine ⟨W.heap.size, A', c', rfl, hr, hk.1, fun W2 h2 => ?_⟩
  have hlt := hs.1.lt
  have htl := ht.1.lt
  have hb2 : Below w.heap.size w W2 := below_weaken hb hs.2.size h2
  exact ⟨hne, ⟨⟨(h2.block g hlt).trans ((hk.2 g hlt (Ne.symm hne) (by simp)).trans hs.1.1), hs.1.2⟩, hb2⟩, ⟨⟨(h2.block t htl).trans hi.1, hi.2⟩, hb2⟩, hI, hJ,
    Ro.of (Kd.V_mono (Kd.V_step (Kd.V_keep (Kd.V_bound (hv 0)) hk (fun k hk => hk.1.2)) (fun k hk _ => h2.block k hk.2)) (fun k hk => hk.1)),
    Ro.of (Kd.V_mono (Kd.V_step (Kd.V_keep (Kd.V_bound (hu 0)) hk (fun k hk => hk.1.2)) (fun k hk _ => h2.block k hk.2)) (fun k hk => hk.1))⟩
theorem same_t {P : Nat → Prop} {base : Nat} (hI : Pure.Inv B l) (hr : Kd.R k28 28 W base (fun _ => True) (.slice A (List.length (bkL B)) c) (bkL B)) (hv : Ro P A1 c1 l W) :
    Calls Tryd.prog 21 #[.slice A (List.length (bkL B)) c, .slice A1 l.length c1] W fun e W' => e = .returned (.bool true) ∧ Drawn0 W W' := by
  have hl := Pure.bk_len hI.1
  unfold Pure.bk at hl
  rw [List.length_map] at hl
  obtain ⟨k, hk⟩ := (Pure.same_evt (l := bkL B) (by omega)).ex
  have hk2 : tithelaw08_same.f k (bkL B) l = some true := by rw [hI.2.1]; exact hk
  obtain ⟨_, q1, q2⟩ := Kd.R_reads' hr
  obtain ⟨_, q3, q4⟩ := Kd.V_reads' (hv 0)
  exact tithelaw08_same.calls k A c (bkL B) A1 c1 l true W q2 q1 q4 q3 hk2
end
theorem sto {ops : Array Oper} {rest : List Oper} {o : Oper} {a : Act} {Q : Exit → Act → World → Prop} {wC W : World} {base go cap n : Nat} {i : Int} {xs : List S28} (hN : o.dst = none) (hgd : o.guard = none) (ho : o.op = .store 28 (.tmp 81) (.tmp 80))
    (ha : a.eval (.tmp 81) = .pointer (some ⟨go, i.toNat * 4, none⟩)) (hx : a.eval (.tmp 80) = .agg #[.int .i64 9, .int .i64 0, .int .i64 0, .bool false])
    (HX : Kd.R k28 28 W base (fun _ => True) (.slice (some ⟨go, 0, none⟩) n cap) xs) (h0 : 0 ≤ i) (hi : i < n) (HB : Below base wC W)
    (h : ∀ w1, Kd.R k28 28 w1 base (fun _ => True) (.slice (some ⟨go, 0, none⟩) n cap) (xs.set i.toNat ⟨9, 0, 0, false⟩) → Below base wC w1 → wpList Tryd.prog ops Q rest a w1) : wpList Tryd.prog ops Q (o :: rest) a W := by
  obtain ⟨ce, hcl, hMM, hcc, hfr⟩ := Kd.R_elem HX z28 i h0 hi
  refine Kd.R_store k28 (w0 := wC) base hN hgd 28 (.tmp 81) (.tmp 80) ho 28 i 0 xs ⟨9, 0, 0, false⟩ _ [.int .i64 9, .int .i64 0, .int .i64 0, .bool false] ce (fun _ => True) (fun k => True ∧ k ≠ go) ha rfl hx rfl ?sT ?s1 HX h0 hi hcl hcc ?sJ ?sM (fun k hk => hk) HB (fun w1 a b _ => h w1 a b)
  case sT => kernel_rfl
  case s1 => intro q hq; simp at hq; rcases hq with rfl | rfl | rfl | rfl <;> rfl
  case sJ => decide
  case sM =>
    have e4 : ce.drop (0 + 4) = [] := List.drop_eq_nil_of_le (by rw [hcl]; decide)
    show k28.M _ _ _ _ (ce.take 0 ++ [.int .i64 9, .int .i64 0, .int .i64 0, .bool false] ++ ce.drop (0 + 4))
    rw [e4]
    exact k28_mkM _ _ _ ⟨9, 0, 0, false⟩
theorem works_t : tithelaw08_works.f = some true := by kernel_rfl
end
set_option maxHeartbeats 16000000 in
set_option maxRecDepth 100000 in
theorem twins_calls (A0 : Option Addr) (c0 : Nat) (l0 : List S26) (Ab : Option Addr) (cb : Nat) (lb : List S26) (w : World) (hr0 : Kd.C k26 w A0 l0.length l0) (hrb : Kd.C k26 w Ab lb.length lb) (hG : GG w) (hlen : l0.length ≤ 9223372036854775807) (hlb : lb.length ≤ 9223372036854775807) :
    Calls Tryd.prog 4 #[.slice A0 l0.length c0, .slice Ab lb.length cb] w fun e w' => e = .returned (.bool true) ∧ Below w.heap.size w w' := by
  have hu23 := Tryd.underlying23
  have hu26 := Tryd.underlying26
  have hu28 := Tryd.underlying28
  have HR0 := Aside0.mk hr0
  have HRb := Aside0.mk hrb
  have HG := Aside0.mk hG
  have HL0 := Aside0.mk hlen
  have HLb := Aside0.mk hlb
  clear hG hr0 hrb hlen hlb
  go_enter Tryd.func4, Tryd.ntmps4
  go_wp2_with (first | (go_at_call 9; refine (admit_New.calls bkNew w _ HG.out (Below.refl _ _) rfl).mono ?_; rintro e w1 ⟨g, rfl, hi, hb, hb2⟩; have HO := Aside0.mk (show One w g bkNew none 0 [] w1 from ⟨⟨hi, hb⟩, Pure.new_inv, Ro.of (Kd.V_nil k51 51 _ 0 _)⟩); clear hi hb hb2))
  go_loopg [6, 7] (l0.length + 1) (fun kq v6 v7 w' => ∃ (i : Int) (A : Option Addr) (c : Nat) (l : List S51) (B : List S28), v6 = .slice A (List.length l) c ∧ v7 = .int .i64 i ∧ Aside0 ((kq : Int) + i = l0.length + 1 ∧ 0 ≤ i ∧ i ≤ l0.length) ∧ Aside0 (One w g B A c l w'))
  case atStart => exact ⟨0, none, 0, [], bkNew, rfl, rfl, ⟨by omega⟩, HO⟩
  case round =>
    clear HO
    obtain ⟨i, A, c, l, B, rfl, rfl, HI, HO⟩ := hrel
    cases gk with
    | zero => exact absurd HI.out (by omega)
    | succ k2 =>
      by_cases q1 : i < (l0.length : Int)
      · have c1b : decide (i < (l0.length : Int)) = true := decide_eq_true q1
        have HM := Aside0.mk (show k2 < k2 + 1 ∧ (k2 : Int) + (i + 1) = l0.length + 1 ∧ 0 ≤ i + 1 ∧ i + 1 ≤ l0.length from ⟨by omega, by have := HI.out; omega, by have := HI.out; omega, by omega⟩)
        obtain ⟨ad, e, x0, x1, x2⟩ := at_T26 HR0.out i HI.out.2.1 q1
        cases e
        replace x0 := (HO.out.1.2.cell (World.block_lt_of_cell? w _ x0)).trans x0
        replace x1 := (HO.out.1.2.cell (World.block_lt_of_cell? w _ x1)).trans x1
        replace x2 := (HO.out.1.2.cell (World.block_lt_of_cell? w _ x2)).trans x2
        have p0 : (0 ≤ i) = True := eq_true HI.out.2.1
        have p1 : (i < (l0.length : Int)) = True := eq_true q1
        have hw : wrap64 (i + 1) = i + 1 := by have := HI.out; have := HL0.out; unfold wrap64; omega
        clear HI q1
        go_wp2_with (first | (go_at_call 19; refine (One.doo (show One w g B A c l _ from by repeat (first | exact HO.out | apply One.drew | apply One.drewN | apply One.alloc)) _ _ _).mono ?_; rintro e w2 ⟨A', c', l', B', rfl, ho⟩; have HO2 := Aside0.mk ho; clear ho))
        go_roundg k2
        case measure => exact HM.out.1
        case rel => exact ⟨i + 1, A', c', l', B', by first | rfl | (simp; done) | (simp [*]; done), by first | rfl | (simp; done) | (simp [*]; done), ⟨HM.out.2⟩, by first | exact HO2 | exact ⟨(show One w g B' A' c' l' _ from by repeat (first | exact HO2.out | apply One.drew | apply One.drewN | apply One.alloc))⟩⟩
      · have c1b : decide (i < (l0.length : Int)) = false := decide_eq_false q1
        clear HI q1
        go_wp2_with (first | (go_at_call 20; refine (One.twin (show One w g B A c l _ from by repeat (first | exact HO.out | apply One.drew | apply One.drewN | apply One.alloc))).mono ?_; rintro e w3 ⟨t, rfl, ha⟩; have HA := Aside0.mk ha; clear ha; clear HO) | (go_at_call 22; (with_reducible refine (Al.listT (show Al w g t B B A c l A c l _ from by repeat (first | exact HA.out | apply Al.drew | apply Al.drewN | apply Al.alloc))).mono ?_); rintro e w4 ⟨base, Av, cv, rfl, hr, hle, hall⟩; have HA2 := Aside0.mk (hall _ (Below.refl _ _)); have HR := Aside0.mk hr; clear hall hr hle; clear HA; have HA := HA2; clear HA2) | (go_at_call 21; (with_reducible refine (same_t (show Al w g t B B A c l A c l _ from by repeat (first | exact HA.out | apply Al.drew | apply Al.drewN | apply Al.alloc)).invB (show Kd.R k28 28 _ _ (fun _ => True) (.slice _ (List.length (bkL B)) _) (bkL B) from by (with_reducible repeat (first | exact HR.out | apply Kd.R_drew | apply Kd.R_drewN | apply Kd.R_alloc))) (show Al w g t B B A c l A c l _ from by repeat (first | exact HA.out | apply Al.drew | apply Al.drewN | apply Al.alloc)).roL).mono ?_); rintro e w5 ⟨rfl, nd, rfl⟩; clear HR))
        go_loopg [11, 12] (lb.length + 1) (fun kq v11 v12 w' => ∃ (i : Int) (A1 : Option Addr) (c1 : Nat) (m : List S51) (C : List S28), v11 = .slice A1 (List.length m) c1 ∧ v12 = .int .i64 i ∧ Aside0 ((kq : Int) + i = lb.length + 1 ∧ 0 ≤ i ∧ i ≤ lb.length) ∧ Aside0 (Al w g t B C A c l A1 c1 m w'))
        case atStart => exact ⟨0, A, c, l, B, rfl, rfl, ⟨by omega⟩, by first | exact HA | exact ⟨(show Al w g t B B A c l A c l _ from by repeat (first | exact HA.out | apply Al.drew | apply Al.drewN | apply Al.alloc))⟩⟩
        case round =>
          clear HA
          obtain ⟨i, A1, c1, m, C, rfl, rfl, HI, HA⟩ := hrel
          cases gk with
          | zero => exact absurd HI.out (by omega)
          | succ k2 =>
            by_cases q1 : i < (lb.length : Int)
            · have c2b : decide (i < (lb.length : Int)) = true := decide_eq_true q1
              have HM := Aside0.mk (show k2 < k2 + 1 ∧ (k2 : Int) + (i + 1) = lb.length + 1 ∧ 0 ≤ i + 1 ∧ i + 1 ≤ lb.length from ⟨by omega, by have := HI.out; omega, by have := HI.out; omega, by omega⟩)
              obtain ⟨ad, e, x0, x1, x2⟩ := at_T26 HRb.out i HI.out.2.1 q1
              cases e
              replace x0 := (HA.out.bel.cell (World.block_lt_of_cell? w _ x0)).trans x0
              replace x1 := (HA.out.bel.cell (World.block_lt_of_cell? w _ x1)).trans x1
              replace x2 := (HA.out.bel.cell (World.block_lt_of_cell? w _ x2)).trans x2
              have p0 : (0 ≤ i) = True := eq_true HI.out.2.1
              have p1 : (i < (lb.length : Int)) = True := eq_true q1
              have hw : wrap64 (i + 1) = i + 1 := by have := HI.out; have := HLb.out; unfold wrap64; omega
              clear HI q1
              go_wp2_with (first | (go_at_call 19; refine (Al.doo (show Al w g t B C A c l A1 c1 m _ from by repeat (first | exact HA.out | apply Al.drew | apply Al.drewN | apply Al.alloc)) _ _ _).mono ?_; rintro e w2 ⟨A', c', m', C', rfl, ha⟩; have HA2 := Aside0.mk ha; clear ha))
              go_roundg k2
              case measure => exact HM.out.1
              case rel => exact ⟨i + 1, A', c', m', C', by first | rfl | (simp; done) | (simp [*]; done), by first | rfl | (simp; done) | (simp [*]; done), ⟨HM.out.2⟩, by first | exact HA2 | exact ⟨(show Al w g t B C' A c l A' c' m' _ from by repeat (first | exact HA2.out | apply Al.drew | apply Al.drewN | apply Al.alloc))⟩⟩
            · have c2b : decide (i < (lb.length : Int)) = false := decide_eq_false q1
              clear HI q1
              go_wp2_with (first | (go_at_call 22; (with_reducible refine (Al.listB (show Al w g t B C A c l A1 c1 m _ from by repeat (first | exact HA.out | apply Al.drew | apply Al.drewN | apply Al.alloc))).mono ?_); rintro e wC ⟨base, Av, cv, rfl, hr, hle, hall⟩; have HALL := Aside0.mk hall; have HR := Aside0.mk hr; have HLE := Aside0.mk hle; have HL64 := Aside0.mk (show (List.length (bkL B)) ≤ 64 from by have hl := Pure.bk_len HA.out.invB.1; unfold Pure.bk at hl; rw [List.length_map] at hl; exact hl); clear hr hle hall; clear HA))
              go_loopg [16] ((List.length (bkL B)) + 1) (fun kq v16 w' => ∃ (i : Int) (xs : List S28), v16 = .int .i64 i ∧ Aside0 ((kq : Int) + i = (List.length (bkL B)) + 1 ∧ 0 ≤ i ∧ i ≤ (List.length (bkL B))) ∧ Aside0 (Kd.R k28 28 w' base (fun _ => True) (.slice Av (List.length (bkL B)) cv) xs) ∧ Aside0 (Below base wC w'))
              case atStart => exact ⟨0, bkL B, rfl, ⟨by omega⟩, by first | exact HR | exact ⟨by (with_reducible repeat (first | exact HR.out | apply Kd.R_drew | apply Kd.R_drewN | apply Kd.R_alloc))⟩, ⟨by first | exact Below.refl _ _ | exact pw_below_drewN (Below.refl _ _) _⟩⟩
              case round =>
                clear HR
                obtain ⟨i, xs, rfl, HI, HR, HB⟩ := hrel
                cases gk with
                | zero => exact absurd HI.out (by omega)
                | succ k2 =>
                  by_cases q1 : i < ((List.length (bkL B)) : Int)
                  · have c3b : decide (i < ((List.length (bkL B)) : Int)) = true := decide_eq_true q1
                    have HM := Aside0.mk (show k2 < k2 + 1 ∧ (k2 : Int) + (i + 1) = (List.length (bkL B)) + 1 ∧ 0 ≤ i + 1 ∧ i + 1 ≤ (List.length (bkL B)) from ⟨by omega, by have := HI.out; omega, by have := HI.out; omega, by omega⟩)
                    have HII := Aside0.mk (show 0 ≤ i ∧ i < ((List.length (bkL B)) : Int) from ⟨HI.out.2.1, q1⟩)
                    have hxl : (List.length (bkL B)) = xs.length := (Kd.R_reads' HR.out).1
                    obtain ⟨go, co, eo, gb, gl, cl, HGo⟩ := Kd.R_form HR.out (by have := HII.out; omega)
                    injection eo with ea en ec
                    subst ea
                    subst ec
                    clear en gb gl HGo cl hxl
                    have HX := Aside0.mk HR.out
                    have p0 : (0 ≤ i) = True := eq_true HII.out.1
                    have p1 : (i < ((List.length (bkL B)) : Int)) = True := eq_true q1
                    have hw : wrap64 (i + 1) = i + 1 := by have := HI.out; have := HL64.out; unfold wrap64; omega
                    clear HI q1
                    go_wp2_with (first | ((with_reducible refine gate_store (t := 28) (p := 81) rfl ?_); refine sto (wC := wC) (base := base) (go := go) (i := i) (xs := xs) (n := (List.length (bkL B))) rfl rfl rfl ?sA ?sX HX.out HII.out.1 HII.out.2 HB.out ?_; (case sA => rfl); (case sX => rfl); intro w12 ho hb; have HR2 := Aside0.mk ho; have HB2 := Aside0.mk hb; clear ho hb))
                    go_roundg k2
                    case measure => exact HM.out.1
                    case rel => exact ⟨i + 1, _, by first | rfl | (simp; done) | (simp [*]; done), ⟨HM.out.2⟩, HR2, HB2⟩
                  · have c3b : decide (i < ((List.length (bkL B)) : Int)) = false := decide_eq_false q1
                    have HA := Aside0.mk (HALL.out _ HB.out)
                    clear HI q1 HR HB HALL
                    go_wp2_with (first | (go_at_call 22; (with_reducible refine (Al.listB (show Al w g t B C A c l A1 c1 m _ from by repeat (first | exact HA.out | apply Al.drew | apply Al.drewN | apply Al.alloc))).mono ?_); rintro e w6 ⟨base2, Av2, cv2, rfl, hr, hle, hall⟩; have HA2 := Aside0.mk (hall _ (Below.refl _ _)); have HR := Aside0.mk hr; clear hall hr hle; clear HA; have HA := HA2; clear HA2) | (go_at_call 21; (with_reducible refine (same_t (B := B) (l := l) (base := base2) (P := fun k => k ≠ g ∧ k ≠ t) ?i1 ?i2 ?i3).mono ?_); (case i1 => exact HA.out.invB); (case i2 => (with_reducible repeat (first | exact HR.out | apply Kd.R_drew | apply Kd.R_drewN | apply Kd.R_alloc))); (case i3 => refine Al.roL (w := w) (g := g) (t := t) (B := B) (C := C) (A := A) (c := c) (l := l) (A1 := A1) (c1 := c1) (m := m) ?_; (repeat (first | exact HA.out | apply Al.drew | apply Al.drewN | apply Al.alloc))); rintro e w7 ⟨rfl, nd, rfl⟩; clear HR) | (go_at_call 22; (with_reducible refine (Al.listT (show Al w g t B C A c l A1 c1 m _ from by repeat (first | exact HA.out | apply Al.drew | apply Al.drewN | apply Al.alloc))).mono ?_); rintro e w8 ⟨base3, Av3, cv3, rfl, hr, hle, hall⟩; have HA2 := Aside0.mk (hall _ (Below.refl _ _)); have HR := Aside0.mk hr; clear hall hr hle; clear HA; have HA := HA2; clear HA2) | (go_at_call 21; (with_reducible refine (same_t (B := C) (l := m) (base := base3) (P := fun k => k ≠ g ∧ k ≠ t) ?i1 ?i2 ?i3).mono ?_); (case i1 => exact HA.out.invC); (case i2 => (with_reducible repeat (first | exact HR.out | apply Kd.R_drew | apply Kd.R_drewN | apply Kd.R_alloc))); (case i3 => refine Al.roM (w := w) (g := g) (t := t) (B := B) (C := C) (A := A) (c := c) (l := l) (A1 := A1) (c1 := c1) (m := m) ?_; (repeat (first | exact HA.out | apply Al.drew | apply Al.drewN | apply Al.alloc))); rintro e w9 ⟨rfl, nd2, rfl⟩; clear HR) | (go_at_call 18; refine (tithelaw08_works.calls true _ (HG.out.below (show Al w g t B C A c l A1 c1 m _ from by repeat (first | exact HA.out | apply Al.drew | apply Al.drewN | apply Al.alloc)).bel) works_t).mono ?_; rintro e w10 ⟨rfl, hb⟩; have HF := Aside0.mk (below_step (show Al w g t B C A c l A1 c1 m _ from by repeat (first | exact HA.out | apply Al.drew | apply Al.drewN | apply Al.alloc)).bel hb); clear hb))
                    go_ret
                    exact ⟨rfl, HF.out⟩
end Tw
def tithelaw08_AdmitTwins.f (l0 : List S26) (l1 : List S26) : Option Bool := if l0.length ≤ 9223372036854775807 ∧ l1.length ≤ 9223372036854775807 then some true else none
theorem tithelaw08_AdmitTwins.calls (A0 : Option Addr) (c0 : Nat) (l0 : List S26) (A1 : Option Addr) (c1 : Nat) (l1 : List S26) (r : Bool) (w : World) (hr0 : Kd.C k26 w A0 l0.length l0) (hc0 : l0.length ≤ c0) (hr1 : Kd.C k26 w A1 l1.length l1) (hc1 : l1.length ≤ c1) (hG : GG w) (h : tithelaw08_AdmitTwins.f l0 l1 = some r) :
    Calls Tryd.prog 4 #[.slice A0 l0.length c0, .slice A1 l1.length c1] w fun e w' => e = .returned (.bool r) ∧ Below w.heap.size w w' := by
  unfold tithelaw08_AdmitTwins.f at h
  by_cases hl : l0.length ≤ 9223372036854775807 ∧ l1.length ≤ 9223372036854775807
  · rw [if_pos hl] at h
    obtain rfl := Option.some.inj h
    exact Tw.twins_calls A0 c0 l0 A1 c1 l1 w hr0 hr1 hG hl.1 hl.2
  · rw [if_neg hl] at h
    cases h
end Go.Proofs.YtaoicceakgipgaaDoor.T
