/- symMergeCmpFunc where the right stretch is one element. -/
import Derived.Test.YthhaikkicabplaaRSymY
namespace Go.Proofs.YthhaikkicabplaaR.Sort
open Go.Shelf Go.RowKit Go.Lib Go.Sort Tithe.Sym Go.Proofs.YthhaikkicabplaaRW.PrintWords Go.Proofs.YthhaikkicabplaaRW.PrintLast Go.Proofs.YthhaikkicabplaaRW.PrintMore
set_option linter.unusedVariables false
variable {α : Type} [Inhabited α]
set_option maxHeartbeats 4000000 in
set_option maxRecDepth 1000000 in
theorem symLast_s (enc : α → Value) (cf : α → α → Int) (g : Nat) (cb : Array Value) (T : α → α → Bool) (pos : α → Nat) (X : Cx T cf pos) (blk off cap : Nat) (d0 : Array α) (w0 w : World) (eg : ∀ args w, (callFunc g args).run Try.prog w = .ok (.enter g args) w) (hcmp : CmpLays1 Try.prog g cb enc cf blk off d0.size w0)
    (A Ll C : List α) (x : α) (a m b : Nat) (R : Row1 enc w0 blk off d0) (hs : (A ++ Ll ++ x :: C).length = d0.size) (ha : a = A.length) (hm : m = A.length + Ll.length) (hb : b = A.length + Ll.length + 1) (hL2 : Ll.length ≠ 1) (hsz : d0.size < 1152921504606846976)
    (hR : Srt T Ll) (hp : ∀ y ∈ Ll, pos y < pos x) (S : SW enc w0 blk off (A ++ Ll ++ x :: C).toArray w) :
    Calls Try.prog 50 #[.slice (some ⟨blk, off, none⟩) d0.size cap, .int .i64 (a : Int), .int .i64 (m : Int), .int .i64 (b : Int), .func (.func g) #[] cb] w fun e w' => e = .returned (.tuple #[]) ∧ ∃ M, Srt T M ∧ M.Perm (x :: Ll) ∧ SW enc w0 blk off (A ++ M ++ C).toArray w' := by
  have hmx : Try.prog.follows .mixedOrders = true := by kernel_rfl
  have hcl0 := R.hO.cells
  simp only [Value.cells] at hcl0
  have hst := R.hO.store Try.prog
  have hlen : A.length + Ll.length + 1 + C.length = d0.size := by
    simp only [List.length_append, List.length_cons] at hs; omega
  have S0 := Aside0.mk S
  have HS := Aside0.mk hs
  have HC := Aside0.mk hcmp
  have HP := Aside0.mk hp
  have HT := Aside0.mk hR
  have HE := Aside0.mk (show a = A.length ∧ m = A.length + Ll.length ∧ b = A.length + Ll.length + 1 from ⟨ha, hm, hb⟩)
  have ham : a ≤ m := by omega
  have hmd : m < d0.size := by omega
  have hz1 : ¬ (m : Int) - (a : Int) = 1 := by omega
  have hz1b : ((m : Int) - (a : Int) == 1) = false := by simpa using hz1
  have hz2 : (b : Int) - (m : Int) = 1 := by omega
  clear S hs ha hm hb hlen hcmp hp hR
  go_enter Try.func50, Try.ntmps50
  go_wp2
  go_loopg [14, 15] (m - a) (fun g1 vi vj wr => ∃ (i j : Nat), vi = .int .i64 (i : Int) ∧ vj = .int .i64 (j : Int) ∧ a ≤ i ∧ i ≤ j ∧ j ≤ m ∧ j - i ≤ g1 ∧ Aside0 (SW enc w0 blk off (A ++ Ll ++ x :: C).toArray wr) ∧ Aside0 (Lo T Ll x (i - a) ∧ Hi T Ll x (j - a)))
  case atStart =>
    refine ⟨a, m, rfl, rfl, by omega, by omega, by omega, by omega, S0, ⟨?_, ?_⟩⟩
    · rw [Nat.sub_self]; exact lo_zero _ _
    · rw [show m - a = Ll.length by have := HE.out; omega]; exact hi_end _ _
  case round =>
    clear S0
    obtain ⟨i, j, rfl, rfl, hmi, hij, hjb, hg1, S1, HL⟩ := hrel
    by_cases hlt : i < j
    · have hdz : decide ((i : Int) < (j : Int)) = true := decide_eq_true (by omega)
      have hltz : (i : Int) < (j : Int) := by omega
      obtain ⟨h, hh⟩ : ∃ h : Nat, ((i : Int) + (j : Int)) / 2 = (h : Int) := ⟨(i + j) / 2, by omega⟩
      have hih : i ≤ h := by omega
      have hhj : h < j := by omega
      obtain ⟨iN, hiN⟩ : ∃ q, q = h := ⟨_, rfl⟩
      obtain ⟨jN, hjN⟩ : ∃ q, q = m := ⟨_, rfl⟩
      have ea : ((h : Int)).toNat = iN := by omega
      have pa : (0 : Int) ≤ (h : Int) := by omega
      have ba : (h : Int) < (d0.size : Int) := by omega
      have ec : ((m : Int)).toNat = jN := by omega
      have pc : (0 : Int) ≤ (m : Int) := by omega
      have bc : (m : Int) < (d0.size : Int) := by omega
      obtain ⟨xv, hx⟩ : ∃ z, z = Ll.getD (h - a) default := ⟨_, rfl⟩
      have la := clg_arr S1.out R HS.out h (by rw [HS.out]; omega)
      have lb := clg_arr S1.out R HS.out m (by rw [HS.out]; omega)
      have gx : (A ++ Ll ++ x :: C).getD h default = xv := by
        obtain ⟨q1, q2, q3⟩ := HE.out
        have := getD_mid2 A Ll (x :: C) (h - a) (by omega)
        rw [hx, ← this]
        congr 1
        omega
      have gy : (A ++ Ll ++ x :: C).getD m default = x := by
        obtain ⟨q1, q2, q3⟩ := HE.out
        rw [q2, show A.length + Ll.length = (A ++ Ll).length by simp]; exact getD_mid (A ++ Ll) C x
      rw [gx, ← hiN] at la
      rw [gy, ← hjN] at lb
      have hc := cmp_arr S1.out HC.out HS.out x xv
      have HX := Aside0.mk hx
      clear hx hiN hjN gx gy
      have hpx : pos xv < pos x := by
        rw [HX.out, getD_eq _ _ (by have := HE.out; omega)]
        exact HP.out _ (List.getElem_mem _)
      have HPX := Aside0.mk hpx
      clear hpx
      by_cases hv : cf x xv < 0
      · have hd : decide (cf x xv < 0) = true := decide_eq_true hv
        go_wp2_with fail
        go_quiet_grown (first | (go_at_fn g; refine Calls.grown_of (hc _ _)))
        have S2 := Aside0.mk (S1.out.grown nq osq)
        clear la lb hc S1
        generalize grow (wr.drewN nq) osq = w2 at S2 ⊢
        clear nq osq ea ec
        go_wp2
        go_roundg (h - i)
        case measure => omega
        case rel =>
          refine ⟨i, h, rfl, by first | rfl | go_num | (congr 1; omega), by omega, by omega, by omega, by omega, S2, ⟨HL.out.1, ?_⟩⟩
          exact hi_step X.ord HT.out (by have := HE.out; omega) (by rw [← HX.out]; exact X.lt _ _ HPX.out (by omega))
      · have hd : decide (cf x xv < 0) = false := decide_eq_false hv
        go_wp2_with fail
        go_quiet_grown (first | (go_at_fn g; refine Calls.grown_of (hc _ _)))
        have S2 := Aside0.mk (S1.out.grown nq osq)
        clear la lb hc S1
        generalize grow (wr.drewN nq) osq = w2 at S2 ⊢
        clear nq osq ea ec
        go_wp2
        go_roundg (j - (h + 1))
        case measure => omega
        case rel =>
          refine ⟨h + 1, j, by first | rfl | go_num | (congr 1; omega), rfl, by omega, by omega, by omega, by omega, S2, ⟨?_, HL.out.2⟩⟩
          rw [show h + 1 - a = h - a + 1 by omega]
          exact lo_step X.ord HT.out (by have := HE.out; omega) (by rw [← HX.out]; exact X.ge _ _ HPX.out (by omega))
    · have hij2 : i = j := by omega
      subst hij2
      have hdz : decide ((i : Int) < (i : Int)) = false := decide_eq_false (by omega)
      have HM := Aside0.mk (one_in X.ord HT.out (by have := HE.out; omega) HL.out.1 HL.out.2)
      clear HL
      go_wp2
      go_loopg [17] (m - i) (fun g2 vk wr2 => ∃ (k : Nat), vk = .int .i64 (k : Int) ∧ i ≤ k ∧ k ≤ m ∧ k - i ≤ g2 ∧ Aside0 (SW enc w0 blk off (A ++ (Ll.take (k - a) ++ x :: Ll.drop (k - a)) ++ C).toArray wr2))
      case atStart =>
        refine ⟨m, rfl, by omega, by omega, by omega, ⟨?_⟩⟩
        have e : m - a = Ll.length := by have := HE.out; omega
        rw [e, List.take_length, List.drop_length]
        simpa using S1.out
      case round =>
        clear S1
        obtain ⟨k, rfl, hak, hki, hg2, S1⟩ := hrel
        have hls : (A ++ (Ll.take (k - a) ++ x :: Ll.drop (k - a)) ++ C).length = d0.size := by
          rw [← HS.out]; simp only [List.length_append, List.length_take, List.length_drop, List.length_cons]; omega
        by_cases hk : i < k
        · obtain ⟨kp, rfl⟩ : ∃ q, k = q + 1 := ⟨k - 1, by omega⟩
          have hkz : (i : Int) < (kp : Int) + 1 := by omega
          have hkd : decide ((kp : Int) + 1 > (i : Int)) = true := decide_eq_true hkz
          obtain ⟨iN, hiN⟩ : ∃ q, q = kp + 1 := ⟨_, rfl⟩
          obtain ⟨jN, hjN⟩ : ∃ q, q = kp := ⟨_, rfl⟩
          have ea : ((kp : Int) + 1).toNat = iN := by omega
          have pa : (0 : Int) ≤ (kp : Int) + 1 := by omega
          have ba : (kp : Int) + 1 < (d0.size : Int) := by omega
          have ra : IntKind.i64.wrap ((kp : Int) + 1) = (kp : Int) + 1 := by rw [IntKind.wrap_i64]; omega
          have ec : ((kp : Int)).toNat = jN := by omega
          have pc : (0 : Int) ≤ (kp : Int) := by omega
          have bc : (kp : Int) < (d0.size : Int) := by omega
          obtain ⟨xv, hx⟩ : ∃ z, z = (A ++ (Ll.take (kp + 1 - a) ++ x :: Ll.drop (kp + 1 - a)) ++ C).getD (kp + 1) default := ⟨_, rfl⟩
          obtain ⟨yv, hy⟩ : ∃ z, z = (A ++ (Ll.take (kp + 1 - a) ++ x :: Ll.drop (kp + 1 - a)) ++ C).getD kp default := ⟨_, rfl⟩
          have c1 := cl_arr S1.out R hls (kp + 1) (by omega)
          have c2 := cl_arr S1.out R hls kp (by omega)
          have f1 := f_arr S1.out R hls (kp + 1) (by omega)
          have f2 := f_arr S1.out R hls kp (by omega)
          obtain ⟨u, c3⟩ := c2_arr S1.out R hls (kp + 1) kp (by omega) (by omega) (enc yv)
          rw [← hiN, ← hjN] at c3
          rw [← hx, ← hiN] at c1
          rw [← hy, ← hjN] at c2
          rw [← hiN] at f1
          rw [← hjN] at f2
          have S3 : Aside0 (SW enc w0 blk off (A ++ (Ll.take (kp - a) ++ x :: Ll.drop (kp - a)) ++ C).toArray ((wr.setCell ⟨blk, off + iN, none⟩ (enc yv)).setCell ⟨blk, off + jN, none⟩ (enc xv)).drew) := by
            rw [hiN, hjN, hx, hy]
            have h0 := swapped_arr S1.out R (kp + 1) kp (by omega) (by omega)
            obtain ⟨q1, q2, q3⟩ := HE.out
            have hka : kp - a < Ll.length := by omega
            have l1 : (A ++ Ll.take (kp - a)).length = kp := by rw [List.length_append, List.length_take]; omega
            have hsw := sw_adj' (A ++ Ll.take (kp - a)) (Ll.drop (kp - a + 1) ++ C) Ll[kp - a] x
            rw [l1] at hsw
            have e1 : A ++ (Ll.take (kp + 1 - a) ++ x :: Ll.drop (kp + 1 - a)) ++ C = A ++ Ll.take (kp - a) ++ Ll[kp - a] :: x :: (Ll.drop (kp - a + 1) ++ C) := by
              rw [show kp + 1 - a = kp - a + 1 by omega, List.take_succ_eq_append_getElem hka]; simp only [List.append_assoc, List.cons_append, List.nil_append]
            have e2 : A ++ (Ll.take (kp - a) ++ x :: Ll.drop (kp - a)) ++ C = A ++ Ll.take (kp - a) ++ x :: Ll[kp - a] :: (Ll.drop (kp - a + 1) ++ C) := by
              rw [List.drop_eq_getElem_cons hka]; simp only [List.append_assoc, List.cons_append]
            have h1 : sw default (A ++ (Ll.take (kp + 1 - a) ++ x :: Ll.drop (kp + 1 - a)) ++ C) (kp + 1) kp = A ++ (Ll.take (kp - a) ++ x :: Ll.drop (kp - a)) ++ C := by rw [e1, hsw, e2]
            rw [h1] at h0
            exact ⟨h0⟩
          clear S1 hx hy hiN hjN
          go_wp2_with fail
          go_big_region_o
          clear c1 c2 c3 f1 f2
          generalize ((wr.setCell ⟨blk, off + iN, none⟩ (enc yv)).setCell ⟨blk, off + jN, none⟩ (enc xv)).drew = w2 at S3 ⊢
          clear ea ec
          go_wp2
          go_roundg (kp - i)
          case measure => omega
          case rel => exact ⟨kp, by first | rfl | go_num | (congr 1; omega), by omega, by omega, by omega, S3⟩
        · have hkz : ¬ (i : Int) < (k : Int) := by omega
          have hkd : decide ((k : Int) > (i : Int)) = false := decide_eq_false hkz
          go_wp2
          refine bodyPost_ret (results_none rfl _ _ _) rfl ?_
          refine ⟨rfl, _, HM.out.1, HM.out.2, ?_⟩
          have := S1.out
          rw [show k - a = i - a by omega] at this
          simpa only [List.append_assoc] using this
end Go.Proofs.YthhaikkicabplaaR.Sort
