/- symMergeCmpFunc where the left stretch is one element. -/
import Derived.Test.YthhaikkicabplaaRSymW
namespace Go.Proofs.YthhaikkicabplaaR.Sort
open Go.Shelf Go.RowKit Go.Lib Go.Sort Tithe.Sym Go.Proofs.YthhaikkicabplaaRW.PrintWords Go.Proofs.YthhaikkicabplaaRW.PrintLast Go.Proofs.YthhaikkicabplaaRW.PrintMore
set_option linter.unusedVariables false
variable {α : Type} [Inhabited α]
/-- the comparison against the order: of two elements, the one that stood ahead on the left -/
structure Cx (T : α → α → Bool) (cf : α → α → Int) (pos : α → Nat) : Prop where
  ord : Ord T
  lt : ∀ x y, pos x < pos y → cf y x < 0 → T y x = true
  ge : ∀ x y, pos x < pos y → ¬ cf y x < 0 → T x y = true
theorem cmp_arr {enc : α → Value} {w0 W : World} {blk off : Nat} {xs : List α} {P : Program} {g : Nat} {cb : Array Value} {cf : α → α → Int} {size : Nat} (h : SW enc w0 blk off xs.toArray W) (hC : CmpLays1 P g cb enc cf blk off size w0) (hs : xs.length = size) (x y : α) (n : Nat) (os : Array Obj) :
    Calls P g (#[enc x, enc y] ++ cb) (grow (W.drewN n) os) fun e w' => e = .returned (.int .i64 (cf x y)) ∧ ∃ q os', w' = grow ((grow (W.drewN n) os).drewN q) os' := h.cmp hC (by simpa using hs) x y n os
theorem clg_arr {enc : α → Value} {w0 W : World} {blk off : Nat} {d0 : Array α} {xs : List α} (h : SW enc w0 blk off xs.toArray W) (R : Row1 enc w0 blk off d0) (hs : xs.length = d0.size) (i : Nat) (hi : i < xs.length) (n : Nat) (os : Array Obj) : (grow (W.drewN n) os).cell? ⟨blk, off + i, none⟩ = some (enc (xs.getD i default)) := by
  rw [← get_arr]; exact h.cl R (by simpa using hs) i (by simpa using hi) n os

set_option maxHeartbeats 4000000 in
set_option maxRecDepth 1000000 in
theorem symOne_s (enc : α → Value) (cf : α → α → Int) (g : Nat) (cb : Array Value) (T : α → α → Bool) (pos : α → Nat) (X : Cx T cf pos) (blk off cap : Nat) (d0 : Array α) (w0 w : World) (eg : ∀ args w, (callFunc g args).run Try.prog w = .ok (.enter g args) w) (hcmp : CmpLays1 Try.prog g cb enc cf blk off d0.size w0)
    (A Rr C : List α) (x : α) (a m b : Nat) (R : Row1 enc w0 blk off d0) (hs : (A ++ x :: Rr ++ C).length = d0.size) (ha : a = A.length) (hm : m = A.length + 1) (hb : b = A.length + 1 + Rr.length) (hsz : d0.size < 1152921504606846976)
    (hR : Srt T Rr) (hp : ∀ y ∈ Rr, pos x < pos y) (S : SW enc w0 blk off (A ++ x :: Rr ++ C).toArray w) :
    Calls Try.prog 50 #[.slice (some ⟨blk, off, none⟩) d0.size cap, .int .i64 (a : Int), .int .i64 (m : Int), .int .i64 (b : Int), .func (.func g) #[] cb] w fun e w' => e = .returned (.tuple #[]) ∧ ∃ M, Srt T M ∧ M.Perm (x :: Rr) ∧ SW enc w0 blk off (A ++ M ++ C).toArray w' := by
  have hmx : Try.prog.follows .mixedOrders = true := by kernel_rfl
  have hcl0 := R.hO.cells
  simp only [Value.cells] at hcl0
  have hst := R.hO.store Try.prog
  have hlen : A.length + 1 + Rr.length + C.length = d0.size := by
    simp only [List.length_append, List.length_cons] at hs; omega
  have S0 := Aside0.mk S
  have HS := Aside0.mk hs
  have HC := Aside0.mk hcmp
  have HP := Aside0.mk hp
  have HT := Aside0.mk hR
  have HE := Aside0.mk (show a = A.length ∧ m = A.length + 1 ∧ b = A.length + 1 + Rr.length from ⟨ha, hm, hb⟩)
  have hma : m = a + 1 := by omega
  have hmb : m ≤ b := by omega
  have hbs : b ≤ d0.size := by omega
  have hz1 : (m : Int) - (a : Int) = 1 := by omega
  have Hma := Aside0.mk hma
  clear S hs ha hm hb hlen hcmp hp hR hma
  go_enter Try.func50, Try.ntmps50
  go_wp2
  go_loopg [10, 11] (b - m) (fun g1 vi vj wr => ∃ (i j : Nat), vi = .int .i64 (i : Int) ∧ vj = .int .i64 (j : Int) ∧ m ≤ i ∧ i ≤ j ∧ j ≤ b ∧ j - i ≤ g1 ∧ Aside0 (SW enc w0 blk off (A ++ x :: Rr ++ C).toArray wr) ∧ Aside0 (Lo T Rr x (i - m) ∧ Hi T Rr x (j - m)))
  case atStart =>
    refine ⟨m, b, rfl, rfl, by omega, by omega, by omega, by omega, S0, ⟨?_, ?_⟩⟩
    · rw [Nat.sub_self]; exact lo_zero _ _
    · rw [show b - m = Rr.length by have := HE.out; omega]; exact hi_end _ _
  case round =>
    clear S0
    obtain ⟨i, j, rfl, rfl, hmi, hij, hjb, hg1, S1, HL⟩ := hrel
    by_cases hlt : i < j
    · have hdz : decide ((i : Int) < (j : Int)) = true := decide_eq_true (by omega)
      have hltz : (i : Int) < (j : Int) := by omega
      obtain ⟨h, hh⟩ : ∃ h : Nat, ((i : Int) + (j : Int)) / 2 = (h : Int) := ⟨(i + j) / 2, by omega⟩
      have hih : i ≤ h := by omega
      have hhj : h < j := by omega
      obtain ⟨iN, hiN⟩ : ∃ q, q = h := ⟨_, rfl⟩
      obtain ⟨jN, hjN⟩ : ∃ q, q = a := ⟨_, rfl⟩
      have ea : ((h : Int)).toNat = iN := by omega
      have pa : (0 : Int) ≤ (h : Int) := by omega
      have ba : (h : Int) < (d0.size : Int) := by omega
      have ec : ((a : Int)).toNat = jN := by omega
      have pc : (0 : Int) ≤ (a : Int) := by omega
      have bc : (a : Int) < (d0.size : Int) := by omega
      obtain ⟨xv, hx⟩ : ∃ z, z = Rr.getD (h - m) default := ⟨_, rfl⟩
      have la := clg_arr S1.out R HS.out h (by rw [HS.out]; omega)
      have lb := clg_arr S1.out R HS.out a (by rw [HS.out]; omega)
      have gx : (A ++ x :: Rr ++ C).getD h default = xv := by
        obtain ⟨q1, q2, q3⟩ := HE.out
        have := getD_mid2 (A ++ [x]) Rr C (h - m) (by omega)
        rw [hx, ← this]
        congr 1
        · simp
        · rw [List.length_append]; simp; omega
      have gy : (A ++ x :: Rr ++ C).getD a default = x := by
        obtain ⟨q1, q2, q3⟩ := HE.out
        rw [q1, List.append_assoc]; exact getD_mid A (Rr ++ C) x
      rw [gx, ← hiN] at la
      rw [gy, ← hjN] at lb
      have hc := cmp_arr S1.out HC.out HS.out xv x
      have HX := Aside0.mk hx
      clear hx hiN hjN gx gy
      have hpx : pos x < pos xv := by
        rw [HX.out, getD_eq _ _ (by have := HE.out; omega)]
        exact HP.out _ (List.getElem_mem _)
      have HPX := Aside0.mk hpx
      clear hpx
      by_cases hv : cf xv x < 0
      · have hd : decide (cf xv x < 0) = true := decide_eq_true hv
        go_wp2_with fail
        go_quiet_grown (first | (go_at_fn g; refine Calls.grown_of (hc _ _)))
        have S2 := Aside0.mk (S1.out.grown nq osq)
        clear la lb hc S1
        generalize grow (wr.drewN nq) osq = w2 at S2 ⊢
        clear nq osq ea ec
        go_wp2
        go_roundg (j - (h + 1))
        case measure => omega
        case rel =>
          refine ⟨h + 1, j, by first | rfl | go_num | (congr 1; omega), rfl, by omega, by omega, by omega, by omega, S2, ⟨?_, HL.out.2⟩⟩
          rw [show h + 1 - m = h - m + 1 by omega]
          exact lo_step X.ord HT.out (by have := HE.out; omega) (by rw [← HX.out]; exact X.lt _ _ HPX.out (by omega))
      · have hd : decide (cf xv x < 0) = false := decide_eq_false hv
        go_wp2_with fail
        go_quiet_grown (first | (go_at_fn g; refine Calls.grown_of (hc _ _)))
        have S2 := Aside0.mk (S1.out.grown nq osq)
        clear la lb hc S1
        generalize grow (wr.drewN nq) osq = w2 at S2 ⊢
        clear nq osq ea ec
        go_wp2
        go_roundg (h - i)
        case measure => omega
        case rel =>
          refine ⟨i, h, rfl, by first | rfl | go_num | (congr 1; omega), by omega, by omega, by omega, by omega, S2, ⟨HL.out.1, ?_⟩⟩
          exact hi_step X.ord HT.out (by have := HE.out; omega) (by rw [← HX.out]; exact X.ge _ _ HPX.out (by omega))
    · have hij2 : i = j := by omega
      subst hij2
      have hdz : decide ((i : Int) < (i : Int)) = false := decide_eq_false (by omega)
      have HM := Aside0.mk (one_in X.ord HT.out (by have := HE.out; omega) HL.out.1 HL.out.2)
      clear HL
      go_wp2
      go_loopg [13] (i - 1 - a) (fun g2 vk wr2 => ∃ (k : Nat), vk = .int .i64 (k : Int) ∧ a ≤ k ∧ k ≤ i - 1 ∧ i - 1 - k ≤ g2 ∧ Aside0 (SW enc w0 blk off (A ++ (Rr.take (k - a) ++ x :: Rr.drop (k - a)) ++ C).toArray wr2))
      case atStart =>
        have := Hma.out
        exact ⟨a, rfl, by omega, by omega, by omega, ⟨by rw [Nat.sub_self]; simpa using S1.out⟩⟩
      case round =>
        clear S1
        obtain ⟨k, rfl, hak, hki, hg2, S1⟩ := hrel
        have hls : (A ++ (Rr.take (k - a) ++ x :: Rr.drop (k - a)) ++ C).length = d0.size := by
          rw [← HS.out]; simp only [List.length_append, List.length_take, List.length_drop, List.length_cons]; omega
        by_cases hk : k < i - 1
        · have hkz : (k : Int) < (i : Int) - 1 := by omega
          have hkd : decide ((k : Int) < (i : Int) - 1) = true := decide_eq_true hkz
          obtain ⟨iN, hiN⟩ : ∃ q, q = k := ⟨_, rfl⟩
          obtain ⟨jN, hjN⟩ : ∃ q, q = k + 1 := ⟨_, rfl⟩
          have ea : ((k : Int)).toNat = iN := by omega
          have pa : (0 : Int) ≤ (k : Int) := by omega
          have ba : (k : Int) < (d0.size : Int) := by omega
          have ec : ((k : Int) + 1).toNat = jN := by omega
          have pc : (0 : Int) ≤ (k : Int) + 1 := by omega
          have bc : (k : Int) + 1 < (d0.size : Int) := by omega
          have rc : IntKind.i64.wrap ((k : Int) + 1) = (k : Int) + 1 := by rw [IntKind.wrap_i64]; omega
          obtain ⟨xv, hx⟩ : ∃ z, z = (A ++ (Rr.take (k - a) ++ x :: Rr.drop (k - a)) ++ C).getD k default := ⟨_, rfl⟩
          obtain ⟨yv, hy⟩ : ∃ z, z = (A ++ (Rr.take (k - a) ++ x :: Rr.drop (k - a)) ++ C).getD (k + 1) default := ⟨_, rfl⟩
          have c1 := cl_arr S1.out R hls k (by omega)
          have c2 := cl_arr S1.out R hls (k + 1) (by omega)
          have f1 := f_arr S1.out R hls k (by omega)
          have f2 := f_arr S1.out R hls (k + 1) (by omega)
          obtain ⟨u, c3⟩ := c2_arr S1.out R hls k (k + 1) (by omega) (by omega) (enc yv)
          rw [← hjN, ← hiN] at c3
          rw [← hx, ← hiN] at c1
          rw [← hy, ← hjN] at c2
          rw [← hiN] at f1
          rw [← hjN] at f2
          have S3 : Aside0 (SW enc w0 blk off (A ++ (Rr.take (k + 1 - a) ++ x :: Rr.drop (k + 1 - a)) ++ C).toArray ((wr.setCell ⟨blk, off + iN, none⟩ (enc yv)).setCell ⟨blk, off + jN, none⟩ (enc xv)).drew) := by
            rw [hiN, hjN, hx, hy]
            have h0 := swapped_arr S1.out R k (k + 1) (by omega) (by omega)
            obtain ⟨q1, q2, q3⟩ := HE.out
            have hka : k - a < Rr.length := by omega
            have l1 : (A ++ Rr.take (k - a)).length = k := by rw [List.length_append, List.length_take]; omega
            have hsw := sw_adj (A ++ Rr.take (k - a)) (Rr.drop (k - a + 1) ++ C) x Rr[k - a]
            rw [l1] at hsw
            have e1 : A ++ (Rr.take (k - a) ++ x :: Rr.drop (k - a)) ++ C = A ++ Rr.take (k - a) ++ x :: Rr[k - a] :: (Rr.drop (k - a + 1) ++ C) := by
              rw [List.drop_eq_getElem_cons hka]; simp only [List.append_assoc, List.cons_append]
            have e2 : A ++ (Rr.take (k + 1 - a) ++ x :: Rr.drop (k + 1 - a)) ++ C = A ++ Rr.take (k - a) ++ Rr[k - a] :: x :: (Rr.drop (k - a + 1) ++ C) := by
              rw [show k + 1 - a = k - a + 1 by omega, List.take_succ_eq_append_getElem hka]; simp only [List.append_assoc, List.cons_append, List.nil_append]
            have h1 : sw default (A ++ (Rr.take (k - a) ++ x :: Rr.drop (k - a)) ++ C) k (k + 1) = A ++ (Rr.take (k + 1 - a) ++ x :: Rr.drop (k + 1 - a)) ++ C := by rw [e1, hsw, e2]
            rw [h1] at h0
            exact ⟨h0⟩
          clear S1 hx hy hiN hjN
          go_wp2_with fail
          go_big_region_o
          clear c1 c2 c3 f1 f2
          generalize ((wr.setCell ⟨blk, off + iN, none⟩ (enc yv)).setCell ⟨blk, off + jN, none⟩ (enc xv)).drew = w2 at S3 ⊢
          clear ea ec
          go_wp2
          go_roundg (i - 1 - (k + 1))
          case measure => omega
          case rel => exact ⟨k + 1, by first | rfl | go_num | (congr 1; omega), by omega, by omega, by omega, S3⟩
        · have hkz : ¬ (k : Int) < (i : Int) - 1 := by have := Hma.out; omega
          have hkd : decide ((k : Int) < (i : Int) - 1) = false := decide_eq_false hkz
          go_wp2
          refine bodyPost_ret (results_none rfl _ _ _) rfl ?_
          refine ⟨rfl, _, HM.out.1, HM.out.2, ?_⟩
          have := S1.out
          rw [show k - a = i - m by have := Hma.out; omega] at this
          simpa only [List.append_assoc] using this
end Go.Proofs.YthhaikkicabplaaR.Sort
