/- Proved here: what All does: the numbers of the sorted list. No conditions. -/
import Derived.Test.YtfmchkplnglepaaHpCloI
import Derived.Shelf.SlSortCmp.NoneTotal
namespace Go.Proofs.Ytfmchkplnglepaa.HpI
open Go.RowKit Go.Proofs.YtfmchkplnglepaaW.PrintWords Go.Proofs.YtfmchkplnglepaaW.PrintLast Go.Proofs.YtfmchkplnglepaaW.PrintMore
open Go Go.Maps Go.Proofs.Ytfmchkplnglepaa.Hp
set_option linter.unusedVariables false
set_option linter.unusedSimpArgs false
/-- the row as the sort holds it -/
theorem holdsE {W : World} {P : Nat → Prop} {g n c : Nat} {es : List En} (h : Kd.R dE 68 W 0 P (.slice (some ⟨g, 0, none⟩) n c) es) : Sort.HoldsK encE 2 W g 0 es.toArray := by
  have hn := (Kd.R_reads' h).1
  intro j hj
  rw [Sort.size_flatK, List.size_toArray] at hj
  have hi : j / 2 < n := by omega
  obtain ⟨x0, x1, f0, f1⟩ := elem_cells h hi
  have e1 : es.toArray[j / 2]! = es.getD (j / 2) z := by
    rw [getElem!_pos es.toArray (j / 2) (by rw [List.size_toArray]; omega), getD_eq (by omega)]
    rfl
  rw [Sort.get_flatK _ _ _ _ (by rw [List.size_toArray]; exact hj), e1, Nat.zero_add]
  rcases Nat.mod_two_eq_zero_or_one j with hm | hm
  · rw [hm, show j = j / 2 * 2 by omega]
    rw [show j / 2 * 2 / 2 = j / 2 by omega]
    exact ⟨x0, f0⟩
  · rw [hm, show j = j / 2 * 2 + 1 by omega]
    rw [show (j / 2 * 2 + 1) / 2 = j / 2 by omega]
    exact ⟨x1, f1⟩
theorem below_sort {W W1 : World} {base g n : Nat} {d : Array En} {os : Array Obj} (hB : Below base W W1) (hbs : base ≤ W1.heap.size) (hg : base ≤ g) : Below base W (sortWorldK encE 2 W1 g 0 n d os) := by
  have hsz : (Sort.putRowK encE 2 (Sort.ahead W1 n) g 0 d).heap.size = W1.heap.size := Sort.size_putRowK _ _ _ _ _ _
  refine ⟨hB.os, hB.tape, hB.output, ?_, fun k hk => ?_⟩
  · have h1 := hB.size
    show W.heap.size ≤ ((Sort.putRowK encE 2 (Sort.ahead W1 n) g 0 d).heap ++ os).size
    rw [Array.size_append, hsz]; omega
  · rw [← hB.block k hk]
    show ((Sort.putRowK encE 2 (Sort.ahead W1 n) g 0 d).heap ++ os)[k]? = W1.heap[k]?
    rw [Array.getElem?_append_left (by rw [hsz]; omega)]
    show (W1.heap.modify g _)[k]? = _
    rw [Array.getElem?_modify, if_neg (by omega)]
theorem holds_sorted {W1 : World} {g n : Nat} {d0 d : Array En} {os : Array Obj} (h : Sort.HoldsK encE 2 W1 g 0 d0) (hg : g < W1.heap.size) (hs : d.size = d0.size) : Sort.HoldsK encE 2 (sortWorldK encE 2 W1 g 0 n d os) g 0 d := by
  unfold sortWorldK
  refine Sort.holdsK_grow _ _ _ _ _ _ _ (by rw [Sort.size_putRowK]; exact hg) (Sort.holdsK_putRowK _ _ _ _ _ d0 d (Sort.holdsK_ahead _ _ _ _ _ _ _ h) hs)
theorem readsE {W : World} {g : Nat} {d : Array En} (h : Sort.HoldsK encE 2 W g 0 d) (hl : d.size ≤ 1000000) : Kd.C dE W (some ⟨g, 0, none⟩) d.size d.toList := by
  refine ⟨by simp, by omega, fun hp => ⟨_, rfl, fun j p hj => ?_⟩⟩
  obtain ⟨hjl, hje⟩ := List.getElem?_eq_some_iff.1 hj
  have hjs : j < d.size := by simpa using hjl
  have e : d[j]! = p := by rw [getElem!_pos d j hjs]; simpa using hje
  refine ⟨[.int .i64 p.1, .int .i64 p.2], rfl, ⟨[.int .i64 p.1], [.int .i64 p.2], rfl, rfl, rfl⟩, fun i u hi => ?_⟩
  have c0 := (h.cell (i := j) (c := 0) hjs (by omega)).1
  have c1 := (h.cell (i := j) (c := 1) hjs (by omega)).1
  rw [e, Nat.zero_add] at c0 c1
  rw [add_plain]
  match i with
  | 0 => obtain rfl : Value.int .i64 p.1 = u := by simpa using hi
         exact c0
  | 1 => obtain rfl : Value.int .i64 p.2 = u := by simpa using hi
         exact c1
  | i + 2 => simp at hi
/-- sorted, and of the same entries: the sorted list -/
theorem sorted_is {es L : List En} (h : Rep es L) (hnd : (es.map (·.1)).Nodup) {d : Array En} (hp : Sort.PermIn 0 es.toArray.size es.toArray d) (hs : Sort.SortedIn (ltOf cfE) 0 es.toArray.size d) : d.toList = L := by
  obtain ⟨h1, h2, h3⟩ := hp
  have e1 : d.extract 0 es.toArray.size = d := by rw [← h1]; exact Array.extract_size
  have e2 : es.toArray.extract 0 es.toArray.size = es.toArray := Array.extract_size
  rw [e1, e2] at h3
  have h4 : d.toList.Perm es := h3
  refine srt_uniq ?_ h.2.2 (h4.trans h.2.1)
  have hnd2 : (d.toList.map (·.1)).Nodup := (h4.map (·.1)).nodup_iff.2 hnd
  refine List.pairwise_iff_getElem.2 fun i j hi hj hij => ?_
  have hi' : i < d.size := by simpa using hi
  have hj' : j < d.size := by simpa using hj
  have hb := hs i j (Nat.zero_le _) hij (by rw [← h1]; exact hj')
  rw [ltE, getElem!_pos d j hj', getElem!_pos d i hi'] at hb
  rcases bef_total d.toList[i] d.toList[j] with h5 | h5 | h5
  · exact h5
  · rw [show d[j] = d.toList[j] by simp, show d[i] = d.toList[i] by simp, h5] at hb; cases hb
  · have hi2 : i < (d.toList.map (·.1)).length := by simpa using hi'
    have hj2 : j < (d.toList.map (·.1)).length := by simpa using hj'
    have : i = j := (List.getElem_inj (h₀ := hi2) (h₁ := hj2) hnd2).1 (by simp only [List.getElem_map, h5])
    omega
theorem nodupE {es : List En} (hnd : ∀ i j, i < es.length → j < es.length → (at' es i).1 = (at' es j).1 → i = j) : (es.map (·.1)).Nodup := by
  refine List.pairwise_iff_getElem.2 fun i j hi hj hij e => ?_
  have hi2 : i < es.length := by simpa using hi
  have hj2 : j < es.length := by simpa using hj
  have := hnd i j hi2 hj2 (by unfold at'; rw [getD_eq hi2, getD_eq hj2]; simpa using e)
  omega
theorem clone_any {W : World} {ok : Nat → Prop} {base n c : Nat} {A : Option Addr} {es : List En} (h : Kd.R dE 68 W base ok (.slice A n c) es) (hl : es.length ≤ 1000000) :
    Calls Try.prog 28 #[.slice A n c] W fun e W' => ∃ A1 c1, e = .returned (.slice A1 es.length c1) ∧ Kd.R dE 68 W' W.heap.size (fun _ => True) (.slice A1 es.length c1) es ∧ Below W.heap.size W W' := by
  cases A with
  | some ad =>
    refine (clone_row h hl).mono ?_
    rintro e W' ⟨v, rfl, hr, hb⟩
    obtain ⟨A1, c1, rfl⟩ := Kd.R_slice hr
    exact ⟨A1, c1, rfl, hr, hb⟩
  | none =>
    refine (clone_nil W n c).mono ?_
    rintro e W' ⟨rfl, m, rfl⟩
    have : es = [] := by
      cases es with
      | nil => rfl
      | cons x r =>
        obtain ⟨g, cap, e, _⟩ := Kd.R_form h (by simp)
        injection e with e
        cases e
    subst this
    exact ⟨none, 0, rfl, Kd.R_nil _ _ _ _ _, pw_below_drewN (Below.refl _ _) m⟩
theorem sort_any {W W1 : World} {A1 : Option Addr} {c1 : Nat} {es L : List En} (h : Kd.R dE 68 W1 W.heap.size (fun _ => True) (.slice A1 es.length c1) es) (hb : Below W.heap.size W W1) (hl : es.length ≤ 1000000) (hr : Rep es L) (hnd : (es.map (·.1)).Nodup) :
    Calls Try.prog 29 #[.slice A1 es.length c1, .func (.func 30) #[] #[]] W1 fun e W' => e = .returned (.tuple #[]) ∧ Kd.C dE W' A1 L.length L ∧ Below W.heap.size W W' := by
  have hlen := len_of hr
  by_cases h0 : es.length = 0
  · have hes : es = [] := List.length_eq_zero_iff.1 h0
    subst hes
    have hL : L = [] := List.length_eq_zero_iff.1 (by rw [← hlen]; rfl)
    subst hL
    have hc := AnyF.slices_SortFunc_none Srt.sortE A1 c1 (.func (.func 30) #[] #[]) W1
    change Calls Try.prog 29 _ _ _ at hc
    refine hc.mono ?_
    rintro e W' ⟨rfl, rfl⟩
    exact ⟨rfl, ⟨rfl, by simp, fun hp => absurd hp (by simp)⟩, hb⟩
  · obtain ⟨g, cap, eo, gb, gl, _⟩ := Kd.R_form h (by omega)
    injection eo with ea en ec
    subst ea
    have hH := holdsE (Kd.R_lower h (Nat.zero_le _))
    have eg : ∀ args w, (callFunc 30 args).run Try.prog w = .ok (.enter 30 args) w := enters_of Try.func30 (by kernel_rfl) rfl
    have hsz : es.toArray.size = es.length := by simp
    have hc := AnyQ.slices_SortFunc Srt.sortE 2 Try.isAgg68 Try.sizeOf68 encE (fun _ => rfl) (fun x v hv => by simp [encE] at hv; rcases hv with rfl | rfl <;> rfl) cfE swoE 30 #[] g 0 c1 es.toArray W1 eg (cmpLays g 0 es.toArray.size W1) hH gl (by rw [hsz]; omega)
    change Calls Try.prog 29 _ _ _ at hc
    rw [hsz] at hc
    refine hc.mono ?_
    rintro e W' ⟨rfl, d, n, os, hp, hs, rfl⟩
    have hd : d.toList = L := sorted_is hr hnd (by rw [hsz]; exact hp) (by rw [hsz]; exact hs)
    have hds : d.size = es.toArray.size := by rw [hsz]; exact hp.1.trans hsz
    have hC := readsE (holds_sorted (n := n) (os := os) hH gl hds) (by rw [hds, hsz]; omega)
    rw [hd, show d.size = L.length by rw [← hd]; simp] at hC
    exact ⟨rfl, hC, below_sort hb hb.size gb⟩
theorem atE {w : World} {A : Option Addr} {n : Nat} {xs : List En} (h : Kd.C dE w A n xs) (i : Nat) (h1 : i < n) : ∃ ad, A = some ad ∧ w.cell? (ad.add (i * 2)) = some (.int .i64 (at' xs i).1) ∧ w.cell? ⟨(ad.add (i * 2)).block, (ad.add (i * 2)).off + 1, none⟩ = some (.int .i64 (at' xs i).2) := by
  obtain ⟨ad, c, e, _, hK, hc0⟩ := Kd.C_get h z (i : Int) (by omega) (by omega)
  rw [Int.toNat_natCast] at hK hc0
  have hc : ∀ j u, c[j]? = some u → w.cell? (ad.add (i * 2 + j)) = some u := hc0
  obtain ⟨_, _, rfl, rfl, rfl⟩ := hK
  exact ⟨ad, e, hc 0 _ rfl, by rw [← add_field _ _ 1 (by omega)]; exact hc 1 _ rfl⟩
theorem info3a : (Try.prog.info? 3).map (fun i => (i.zero, i.size, i.bytes)) = some (some (.int .i64 0), 1, 8) := by kernel_rfl
theorem app_int {V : World} {base : Nat} {x : Int} {xs : List Int} {v : Value} {ops : Array Oper} {rest : List Oper} {o : Oper} {a : Act} {Q : Exit → Act → World → Prop} {s1 s2 : Tmp} (h : Kd.R (Kd.int .i64) 3 V base (fun _ => True) v xs) (hb : base ≤ V.heap.size) (hl : xs.length ≤ 1000000)
    (ho : o.op = .call { callee := .builtin .append, args := #[.tmp s1, .tmp s2], argTypes := #[36, 36] }) (hgd : o.guard = none) (h1 : a.eval (.tmp s1) = v) (h2 : a.eval (.tmp s2) = .slice (some ⟨V.heap.size, 0, none⟩) 1 1)
    (k : ∀ v1 w1, Kd.R (Kd.int .i64) 3 w1 base (fun _ => True) v1 (xs ++ [x]) → Below base V w1 → wpList Try.prog ops Q rest (a.put o.dst v1) w1) : wpList Try.prog ops Q (o :: rest) a (V.alloc (.cells #[.int .i64 x] 3)) := by
  refine Kd.R_append (Kd.int .i64) (w0 := V) base hgd (.tmp s1) (.tmp s2) 36 3 (.int .i64 0) 8 ho Try.underlying36 info3a rfl (by decide) (by omega) v xs x [.int .i64 x] (fun _ => True) (fun _ => False) h1 h2 rfl (fun _ hk => hk.elim) (fun _ _ => trivial) h (Below.refl _ _) hb (by omega) ?_
  intro v1 w3 ho hb hg hat
  exact k v1 w3 ho hb
theorem size_alloc1 (V : World) (o : Obj) : (V.alloc o).heap.size = V.heap.size + 1 := Array.size_push ..
set_option maxHeartbeats 16000000 in
set_option maxRecDepth 100000 in
theorem hs_all {P : Nat → Prop} {W : World} {g : Nat} {L : List En} (h : HS P g L W) :
    Calls Try.prog 19 #[.pointer (some ⟨g, 0, none⟩)] W fun e W' => ∃ v, e = .returned v ∧ Kd.R (Kd.int .i64) 3 W' W.heap.size (fun _ => True) v (L.map (·.1)) ∧ Below W.heap.size W W' := by
  obtain ⟨es, hp, hr⟩ := h
  have hnd := nodupE (fun i j hi hj e => hp.nodup hi hj e)
  have hlen := hp.len
  have hll := len_of hr
  obtain ⟨A, c, bm, D, hb, hPg, hPm, hmg, hR, hM, hok, _, _⟩ := hp
  have c0 : W.cell? ⟨g, 0, none⟩ = some (.slice A es.length c) := cell_of_row W g 0 _ _ (0, 0) hb
  have huP := Try.underlying46
  have huH := Try.underlying66
  have huL := Try.underlying64
  have huE := Try.underlying68
  have huI := Try.underlying36
  have HCL := Aside0.mk (fun m : Nat => clone_any (Kd.R_drewN hR m) hlen)
  have HCL0 := Aside0.mk (clone_any hR hlen)
  have HSO := Aside0.mk (fun (W1 : World) (A1 : Option Addr) (c1 : Nat) (h1 : Kd.R dE 68 W1 W.heap.size (fun _ => True) (.slice A1 es.length c1) es) (hb : Below W.heap.size W W1) => sort_any h1 hb hlen hr hnd)
  have HL := Aside0.mk (show L.length ≤ 1000000 from by omega)
  rw [hll] at HSO HCL HCL0 c0
  clear hb hPg hPm hmg hR hM hok hlen hr hnd hll
  go_enter Try.func19, Try.ntmps19
  go_wp2_with (first
    | (go_at_call 28; refine HCL0.out.mono ?_; rintro e w1 ⟨A1, c1, rfl, hr1, hb1⟩; have HR1 := Aside0.mk hr1; have HB1 := Aside0.mk hb1; clear hr1 hb1)
    | (go_at_call 29; refine (HSO.out _ A1 c1 HR1.out HB1.out).mono ?_; rintro e w2 ⟨rfl, hC, hb2⟩; have HC := Aside0.mk hC; have HB2 := Aside0.mk hb2; clear hC hb2)
    | go_in)
  go_loopg [4, 18] (L.length + 1) (fun kq v4 v18 V => ∃ i : Nat, v18 = .int .i64 (i : Int) ∧ Aside0 (kq + i = L.length + 1 ∧ i ≤ L.length) ∧ Aside0 (Kd.R (Kd.int .i64) 3 V w2.heap.size (fun _ => True) v4 ((L.take i).map (·.1))) ∧ Aside0 (Below w2.heap.size w2 V))
  case atStart => exact ⟨0, rfl, ⟨by omega, by omega⟩, ⟨Kd.R_nil _ _ _ _ _⟩, ⟨by repeat (first | exact Below.refl _ _ | apply pw_below_drewN | apply below_drew1)⟩⟩
  case round =>
    obtain ⟨i, rfl, HI, HV, HBV⟩ := hrel
    cases gk with
    | zero => exact absurd HI.out (by omega)
    | succ k2 =>
      by_cases q1 : i < L.length
      · have d1 : decide ((i : Int) < (L.length : Int)) = true := decide_eq_true (by omega)
        have d1' : decide (i < L.length) = true := decide_eq_true q1
        obtain ⟨ad, e, x0, x1⟩ := atE HC.out i q1
        subst e
        replace x0 := pw_cell_below HBV.out x0
        replace x1 := pw_cell_below HBV.out x1
        obtain ⟨i1, hi1⟩ : ∃ n, n = i + 1 := ⟨_, rfl⟩
        have htk := Aside0.mk (show (L.take i1).map (·.1) = (L.take i).map (·.1) ++ [(at' L i).1] from by
          rw [hi1, List.take_add_one, List.getElem?_eq_getElem q1, List.map_append]
          unfold at'
          rw [getD_eq q1]
          rfl)
        obtain ⟨p, hp⟩ : ∃ p, at' L i = p := ⟨_, rfl⟩
        rw [hp] at x0 x1 htk
        obtain ⟨pi, pk⟩ := p
        have HN := Aside0.mk (show k2 < k2 + 1 ∧ k2 + i1 = L.length + 1 ∧ i1 ≤ L.length from ⟨by omega, by have := HI.out; omega, by omega⟩)
        have HTL := Aside0.mk (show ((L.take i).map (·.1)).length ≤ 1000000 from by have := HL.out; rw [List.length_map, List.length_take]; omega)
        have p0 : (0 ≤ (i : Int)) = True := eq_true (by omega)
        have p1 : ((i : Int) < (L.length : Int)) = True := eq_true (by omega)
        have p1' : (i < L.length) = True := eq_true q1
        have hw_ := Aside0.mk (show wrap64 ((i : Int) + 1) = (i1 : Int) by have h8 := HL.out; unfold wrap64; omega)
        clear HI q1 hp hi1
        have hw := hw_.out
        go_wp2_with (first
          | ((with_reducible refine gate_builtin (b := .append) (xs := #[.tmp 22, .tmp 25]) rfl ?_); at_builtin; refine app_int (base := w2.heap.size) ?i1 ?i2 HTL.out rfl rfl rfl (congrArg (fun k => Value.slice (some ⟨k, 0, none⟩) 1 1) (size_alloc1 _ _).symm) ?_; (case i1 => first | exact Kd.R_alloc HV.out _ | (repeat (first | exact HV.out | apply Kd.R_alloc | apply Kd.R_drewN | apply Kd.R_drew))); (case i2 => exact (show Below w2.heap.size w2 _ from by first | exact below_alloc HBV.out _ | repeat (first | exact HBV.out | apply below_alloc | apply pw_below_drewN | apply below_drew1)).size); intro v1 w3 hr3 hb3; rw [← htk.out] at hr3; have HV2 := Aside0.mk hr3; have HBV2 := Aside0.mk ((below_alloc HBV.out _).trans hb3); clear hr3 hb3)
          | go_in)
        go_roundg k2
        case measure => exact HN.out.1
        case rel => exact ⟨i1, by first | rfl | (simp; done) | (simp [*]; done), ⟨HN.out.2⟩, HV2, HBV2⟩
      · have d1 : decide ((i : Int) < (L.length : Int)) = false := decide_eq_false (by omega)
        have d1' : decide (i < L.length) = false := decide_eq_false q1
        have HEND := Aside0.mk (show L.take i = L from List.take_of_length_le (by omega))
        clear HI q1
        go_wp2
        go_ret
        exact ⟨_, rfl, by have := HV.out; rw [HEND.out] at this; exact Kd.R_lower this HB2.out.size, below_step HB2.out HBV.out⟩
set_option maxHeartbeats 8000000 in
set_option maxRecDepth 100000 in
theorem sure5 (w : World) : Calls Try.prog 10 #[] w fun e w' => e = .returned (.bool true) ∧ Below w.heap.size w w' := by
  have huP := Try.underlying46
  have hb : Below w.heap.size w w := Below.refl _ _
  have HB := Aside0.mk hb
  clear hb
  have l1 : ins ((5 : Int), (10 : Int)) (ins (7, 30) []) = [(5, 10), (7, 30)] := by decide
  have HL := Aside0.mk l1
  clear l1
  go_enter Try.func10, Try.ntmps10
  go_wp2_with (first
    | (go_at_call 17; refine (tx_new (w := w) (by repeat (first | exact HB.out | apply pw_below_drewN))).mono ?_; rintro e w1 ⟨g, rfl, hh⟩; have HT := Aside0.mk hh; clear hh)
    | (go_at_call 18; (with_reducible refine (Tx.pushN (w := w) (g := g) (L := []) ?i1 7 30 ?i2 ?i3 ?i4).mono ?_); (case i1 => exact HT.out); (case i2 => simp); (case i3 => omega); (case i4 => simp); rintro e w2 ⟨rfl, hh⟩; have HT2 := Aside0.mk hh; clear hh)
    | (go_at_call 18; (with_reducible refine (Tx.pushN (w := w) (g := g) (L := ins (7, 30) []) ?i1 5 10 ?i2 ?i3 ?i4).mono ?_); (case i1 => exact HT2.out); (case i2 => simp [ins]); (case i3 => omega); (case i4 => simp [ins]); rintro e w3 ⟨rfl, hh⟩; rw [HL.out] at hh; have HT3 := Aside0.mk hh; clear hh)
    | (go_at_call 25; refine (Tx.min HT3.out).mono ?_; rintro e w4 ⟨rfl, hh⟩; have HT4 := Aside0.mk hh; clear hh; simp only [first3])
    | go_in)
  go_ret
  exact ⟨rfl, HT4.out.bel⟩
end Go.Proofs.Ytfmchkplnglepaa.HpI
