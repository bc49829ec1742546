/- Proved here: what the function by which All sorts says of two entries; what slices.Clone does with a heap's row. No conditions. -/
import Derived.Test.YtfmchkplnglepaaHpMoveI
import Derived.Test.YtfmchkplnglepaaSortE
import Derived.Lib.SliceRun
namespace Go.Proofs.Ytfmchkplnglepaa.HpI
open Go.RowKit Go.Proofs.YtfmchkplnglepaaW.PrintWords Go.Proofs.YtfmchkplnglepaaW.PrintLast Go.Proofs.YtfmchkplnglepaaW.PrintMore
open Go Go.Maps Go.Proofs.Ytfmchkplnglepaa.Hp Go.Sort
set_option linter.unusedVariables false
set_option linter.unusedSimpArgs false
theorem cmp_f (a b : Int) : R.cmp_Compare_int.f a b = some (if a < b then -1 else if a > b then 1 else 0) := by
  unfold R.cmp_Compare_int.f R.cmp_isNaN_int.f
  simp only [Option.bind_some, bne_self_eq_false, Bool.false_eq_true, if_false]
  split
  · rfl
  · split <;> rfl
/-- an entry's two cells -/
def encE (x : En) : List Value := [.int .i64 x.1, .int .i64 x.2]
set_option maxHeartbeats 4000000 in
set_option maxRecDepth 100000 in
theorem bef_grows (x y : En) (W : World) : Calls Try.prog 31 #[.agg #[.int .i64 x.1, .int .i64 x.2], .agg #[.int .i64 y.1, .int .i64 y.2]] W fun e w' => e = .returned (.bool (bef x y)) ∧ ∃ q os', w' = grow (W.drewN q) os' := by
  obtain ⟨x1, x2⟩ := x
  obtain ⟨y1, y2⟩ := y
  have hE := Try.underlying68
  by_cases h1 : x2 < y2
  · have hc := cmp_f x2 y2
    rw [if_pos h1] at hc
    have HC := Aside0.mk hc
    have hb : bef (x1, x2) (y1, y2) = true := (bef_iff _ _).2 (Or.inl h1)
    rw [hb]
    clear hc h1 hb
    go_enter Try.func31, Try.ntmps31
    go_wp2_with (first
      | (go_at_call 41; refine (R.cmp_Compare_int.calls x2 y2 (-1) _ HC.out).mono ?_; rintro e w1 ⟨rfl, n, rfl⟩)
      | go_in)
    go_ret
    exact ⟨rfl, _, _, by rw [alloc_eq_grow, alloc_eq_grow, grow_grow]; rfl⟩
  · by_cases h2 : x2 > y2
    · have hc := cmp_f x2 y2
      rw [if_neg h1, if_pos h2] at hc
      have HC := Aside0.mk hc
      have hb : bef (x1, x2) (y1, y2) = false := by
        cases h : bef (x1, x2) (y1, y2) with
        | false => rfl
        | true =>
          have h3 : x2 < y2 ∨ (x2 = y2 ∧ x1 < y1) := (bef_iff _ _).1 h
          omega
      rw [hb]
      clear hc h1 h2 hb
      go_enter Try.func31, Try.ntmps31
      go_wp2_with (first
        | (go_at_call 41; refine (R.cmp_Compare_int.calls x2 y2 1 _ HC.out).mono ?_; rintro e w1 ⟨rfl, n, rfl⟩)
        | go_in)
      go_ret
      exact ⟨rfl, _, _, by rw [alloc_eq_grow, alloc_eq_grow, grow_grow]; rfl⟩
    · have hc := cmp_f x2 y2
      rw [if_neg h1, if_neg h2] at hc
      have HC := Aside0.mk hc
      have hxy : x2 = y2 := by omega
      have hb : bef (x1, x2) (y1, y2) = decide (x1 < y1) := by
        by_cases h : x1 < y1
        · rw [decide_eq_true h]; exact (bef_iff _ _).2 (Or.inr ⟨hxy, h⟩)
        · rw [decide_eq_false h]
          cases h4 : bef (x1, x2) (y1, y2) with
          | false => rfl
          | true =>
            have h3 : x2 < y2 ∨ (x2 = y2 ∧ x1 < y1) := (bef_iff _ _).1 h4
            omega
      rw [hb]
      clear hc h1 h2 hb hxy
      go_enter Try.func31, Try.ntmps31
      go_wp2_with (first
        | (go_at_call 41; refine (R.cmp_Compare_int.calls x2 y2 0 _ HC.out).mono ?_; rintro e w1 ⟨rfl, n, rfl⟩)
        | go_in)
      go_ret
      exact ⟨rfl, _, _, by rw [alloc_eq_grow, alloc_eq_grow, grow_grow]; rfl⟩
/-- what the function answers -/
def cfE (x y : En) : Int := if bef x y = true then -1 else 1
theorem ltE (x y : En) : ltOf cfE x y = bef x y := by
  unfold ltOf cfE
  cases bef x y <;> simp
theorem swoE : SWO (ltOf cfE) where
  irrefl x := by rw [ltE]; exact bef_irr x
  trans x y z h1 h2 := by rw [ltE] at *; exact bef_trans h1 h2
  ntrans x y z h1 h2 := by rw [ltE] at *; exact nb_trans h1 h2
set_option maxHeartbeats 4000000 in
set_option maxRecDepth 100000 in
theorem clo_grows (x y : En) (W : World) : Calls Try.prog 30 #[.agg #[.int .i64 x.1, .int .i64 x.2], .agg #[.int .i64 y.1, .int .i64 y.2]] W fun e w' => e = .returned (.int .i64 (cfE x y)) ∧ ∃ q os', w' = grow (W.drewN q) os' := by
  have HB := Aside0.mk (fun V : World => bef_grows x y V)
  unfold cfE
  cases hb : bef x y with
  | true =>
    rw [hb] at HB
    clear hb
    rw [if_pos rfl]
    go_enter Try.func30, Try.ntmps30
    go_wp2_with (first
      | (go_at_call 31; refine (HB.out _).mono ?_; rintro e w1 ⟨rfl, n, os', rfl⟩)
      | go_in)
    go_ret
    exact ⟨rfl, n, _, by rw [alloc_eq_grow, alloc_eq_grow, grow_grow]; exact grow_grow (W.drewN n) _ os'⟩
  | false =>
    rw [hb] at HB
    clear hb
    rw [if_neg (by decide)]
    go_enter Try.func30, Try.ntmps30
    go_wp2_with (first
      | (go_at_call 31; refine (HB.out _).mono ?_; rintro e w1 ⟨rfl, n, os', rfl⟩)
      | go_in)
    go_ret
    exact ⟨rfl, n, _, by rw [alloc_eq_grow, alloc_eq_grow, grow_grow]; exact grow_grow (W.drewN n) _ os'⟩
theorem cmpLays (blk off size : Nat) (w : World) : CmpLays Try.prog 30 #[] encE 2 cfE blk off size w := fun _ _ _ _ x y => clo_grows x y _
set_option maxHeartbeats 8000000 in
set_option maxRecDepth 100000 in
theorem clone_nil (W : World) (n c : Nat) : Calls Try.prog 28 #[.slice none n c] W fun e W' => e = .returned (.slice none 0 0) ∧ ∃ m, W' = W.drewN m := by
  have huL := Try.underlying64
  have q : ∀ (w : World) (a : Option Addr) (n c n' c' : Nat), (binOp .eql 64 (.slice a n c) (.slice none n' c')).run Try.prog w = .ok (.bool a.isNone) w := fun w a n c n' c' => Lib.run_eql_slice_nil w _ _ a n c n' c' huL
  go_enter Try.func28, Try.ntmps28
  go_wp2
  go_ret
  first | exact ⟨rfl, 0, rfl⟩ | exact ⟨rfl, _, rfl⟩
theorem R_empty (W : World) : Kd.R dE 68 (W.alloc (.cells #[] 68)) W.heap.size (fun _ => True) (.slice (some ⟨W.heap.size, 0, none⟩) 0 0) ([] : List En) := ⟨fun _ _ => trivial, [], World.ownsRow_made W #[] 0 (Nat.le_refl _) (Nat.zero_le _) rfl, ⟨rfl, fun i x h => by simp at h⟩⟩
set_option maxHeartbeats 8000000 in
set_option maxRecDepth 100000 in
theorem clone_row {W : World} {ok : Nat → Prop} {base n c : Nat} {ad : Addr} {es : List En} (h : Kd.R dE 68 W base ok (.slice (some ad) n c) es) (hl : es.length ≤ 1000000) :
    Calls Try.prog 28 #[.slice (some ad) n c] W fun e W' => ∃ v, e = .returned v ∧ Kd.R dE 68 W' W.heap.size (fun _ => True) v es ∧ Below W.heap.size W W' := by
  have huL := Try.underlying64
  have q : ∀ (w : World) (a : Option Addr) (n c n' c' : Nat), (binOp .eql 64 (.slice a n c) (.slice none n' c')).run Try.prog w = .ok (.bool a.isNone) w := fun w a n c n' c' => Lib.run_eql_slice_nil w _ _ a n c n' c' huL
  obtain ⟨hn, hnc, hC⟩ := Kd.R_reads' h
  have HN := Aside0.mk (show n ≤ 1000000 ∧ n = es.length from ⟨by omega, hn⟩)
  have HC := Aside0.mk hC
  have hE : Kd.R dE 68 (W.alloc (.cells #[] 68)) W.heap.size (fun _ => True) (.slice (some ⟨W.heap.size, 0, none⟩) 0 0) ([] : List En) := R_empty W
  have HE := Aside0.mk hE
  clear h hl hn hnc hC hE
  go_enter Try.func28, Try.ntmps28
  go_wp2_with (first
    | ((with_reducible refine gate_builtin (b := .append) (xs := #[.tmp 5, .tmp 6]) rfl ?_); at_builtin; refine Kd.R_append_rows dE (w0 := W) W.heap.size rfl (.tmp 5) (.tmp 6) 64 68 (.agg #[.int .i64 0, kv 0]) 16 rfl Try.underlying64 infoE rfl (by decide) (by omega) (.slice (some ⟨W.heap.size, 0, none⟩) 0 0) ([] : List En) es _ _ _ (fun _ => True) (fun _ => False) rfl rfl HE.out ?aR (fun _ _ h => h) (fun _ h => h.elim) (fun _ _ => trivial) ?aB ?aS ?aL ?_; (case aR => rw [HN.out.2]; exact Kd.C_alloc HC.out _); (case aB => exact below_alloc (Below.refl _ _) _); (case aS => first | exact Nat.le_succ _ | simp); (case aL => have := HN.out; simp; omega); intro v1 w3 ho hb hg hat; have H1 := Aside0.mk ho; have H2 := Aside0.mk hb; clear ho hb hg hat)
    | go_in)
  go_ret
  exact ⟨_, rfl, H1.out, H2.out⟩
end Go.Proofs.Ytfmchkplnglepaa.HpI
