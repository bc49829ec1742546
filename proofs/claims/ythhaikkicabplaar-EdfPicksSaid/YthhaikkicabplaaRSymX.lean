/- symMergeCmpFunc: two sorted stretches beside one another are merged, at any length. No conditions. -/
import Derived.Test.YthhaikkicabplaaRSymZ
import Derived.Deep.DeepCutAuto
namespace Go.Proofs.YthhaikkicabplaaR.Sort
open Go.Shelf Go.RowKit Go.Lib Go.Sort Tithe.Sym Go.Proofs.YthhaikkicabplaaRW.PrintWords Go.Proofs.YthhaikkicabplaaRW.PrintLast Go.Proofs.YthhaikkicabplaaRW.PrintMore
set_option linter.unusedVariables false
theorem srt_one {α : Type} {T : α → α → Bool} {L Rr : List α} (h : L.length = 0 ∨ Rr.length = 0) (hL : Srt T L) (hR : Srt T Rr) : Srt T (L ++ Rr) := by
  rcases h with h | h
  · rw [List.length_eq_zero_iff.1 h]; exact hR
  · rw [List.length_eq_zero_iff.1 h, List.append_nil]; exact hL
variable {α : Type} [Inhabited α]
/-- what the merge of so many elements at most does -/
def MC (T : α → α → Bool) (pos : α → Nat) (enc : α → Value) (g : Nat) (cb : Array Value) (blk off cap : Nat) (d0 : Array α) (w0 : World) (N : Nat) : Prop :=
  ∀ (A L Rr C : List α) (a m b : Nat) (w : World), b - a < N → (A ++ L ++ Rr ++ C).length = d0.size → a = A.length → m = A.length + L.length → b = A.length + L.length + Rr.length → 0 < L.length → 0 < Rr.length → Srt T L → Srt T Rr → (∀ x ∈ L, ∀ y ∈ Rr, pos x < pos y) →
    SW enc w0 blk off (A ++ L ++ Rr ++ C).toArray w → Calls Try.prog 50 #[.slice (some ⟨blk, off, none⟩) d0.size cap, .int .i64 (a : Int), .int .i64 (m : Int), .int .i64 (b : Int), .func (.func g) #[] cb] w fun e w' => e = .returned (.tuple #[]) ∧ ∃ M, Srt T M ∧ M.Perm (L ++ Rr) ∧ SW enc w0 blk off (A ++ M ++ C).toArray w'

set_option maxHeartbeats 8000000 in
set_option maxRecDepth 1000000 in
theorem symStep_s (enc : α → Value) (cf : α → α → Int) (g : Nat) (cb : Array Value) (T : α → α → Bool) (pos : α → Nat) (X : Cx T cf pos) (blk off cap : Nat) (d0 : Array α) (w0 w : World) (eg : ∀ args w, (callFunc g args).run Try.prog w = .ok (.enter g args) w) (hcmp : CmpLays1 Try.prog g cb enc cf blk off d0.size w0)
    (A L Rr C : List α) (a m b : Nat) (R : Row1 enc w0 blk off d0) (hs : (A ++ L ++ Rr ++ C).length = d0.size) (ha : a = A.length) (hm : m = A.length + L.length) (hb : b = A.length + L.length + Rr.length) (hL2 : 1 < L.length) (hR2 : 1 < Rr.length) (hsz : d0.size < 1152921504606846976)
    (hL : Srt T L) (hR : Srt T Rr) (hp : ∀ x ∈ L, ∀ y ∈ Rr, pos x < pos y) (HI : MC T pos enc g cb blk off cap d0 w0 (b - a)) (S : SW enc w0 blk off (A ++ L ++ Rr ++ C).toArray w) :
    Calls Try.prog 50 #[.slice (some ⟨blk, off, none⟩) d0.size cap, .int .i64 (a : Int), .int .i64 (m : Int), .int .i64 (b : Int), .func (.func g) #[] cb] w fun e w' => e = .returned (.tuple #[]) ∧ ∃ M, Srt T M ∧ M.Perm (L ++ Rr) ∧ SW enc w0 blk off (A ++ M ++ C).toArray w' := by
  have hmx : Try.prog.follows .mixedOrders = true := by kernel_rfl
  have hcl0 := R.hO.cells
  simp only [Value.cells] at hcl0
  have hst := R.hO.store Try.prog
  have hlen : A.length + L.length + Rr.length + C.length = d0.size := by
    simp only [List.length_append] at hs; omega
  obtain ⟨mid, hmid⟩ : ∃ mid : Nat, mid = (a + b) / 2 := ⟨_, rfl⟩
  have hmidz : ((a : Int) + (b : Int)) / 2 = (mid : Int) := by omega
  obtain ⟨s0, r0, h0⟩ : ∃ s0 r0 : Nat, (mid < m ∧ s0 = mid + m - b ∧ r0 = mid) ∨ (m ≤ mid ∧ s0 = a ∧ r0 = m) := by
    by_cases h : mid < m
    · exact ⟨_, _, .inl ⟨h, rfl, rfl⟩⟩
    · exact ⟨_, _, .inr ⟨by omega, rfl, rfl⟩⟩
  have has0 : a ≤ s0 := by omega
  have hsr0 : s0 ≤ r0 := by omega
  have hr0m : r0 ≤ m := by omega
  have hr0d : r0 ≤ mid := by omega
  have hs0b : mid + m ≤ s0 + b := by omega
  have ham : a + 1 < m := by omega
  have hmb : m + 1 < b := by omega
  have hbs : b ≤ d0.size := by omega
  have hamid : a < mid := by omega
  have hmidb : mid < b := by omega
  have S0 := Aside0.mk S
  have HS := Aside0.mk hs
  have HC := Aside0.mk hcmp
  have HP := Aside0.mk hp
  have HTL := Aside0.mk hL
  have HTR := Aside0.mk hR
  have H0 := Aside0.mk h0
  have HE := Aside0.mk (show a = A.length ∧ m = A.length + L.length ∧ b = A.length + L.length + Rr.length ∧ 1 < L.length ∧ 1 < Rr.length from ⟨ha, hm, hb, hL2, hR2⟩)
  have HMID := Aside0.mk hmid
  have HII := Aside0.mk HI
  have hz1 : ¬ (m : Int) - (a : Int) = 1 := by omega
  have hz1b : ((m : Int) - (a : Int) == 1) = false := by simpa using hz1
  have hz2 : ¬ (b : Int) - (m : Int) = 1 := by omega
  have hz2b : ((b : Int) - (m : Int) == 1) = false := by simpa using hz2
  clear S hs ha hm hb hlen hcmp hp hL hR h0 hL2 hR2 hmid HI
  go_enter Try.func50, Try.ntmps50
  go_upto_if 140 with (fail)
  go_cut [20, 21] (fun v20 v21 wc => v20 = .int .i64 (s0 : Int) ∧ v21 = .int .i64 (r0 : Int) ∧ wc = w)
  case first => as_aux_lemma =>
    rcases H0.out with ⟨h1, h2, h3⟩ | ⟨h1, h2, h3⟩
    · have hgt : (mid : Int) < (m : Int) := by omega
      have hgtd : decide ((m : Int) > (mid : Int)) = true := decide_eq_true hgt
      have HZ := Aside0.mk (show (mid : Int) + (m : Int) - (b : Int) = (s0 : Int) ∧ (mid : Int) = (r0 : Int) from ⟨by omega, by omega⟩)
      clear h1 h2 h3
      go_wp2
      go_meet
      case rel => exact ⟨by rw [HZ.out.1], by rw [HZ.out.2], rfl⟩
    · have hgt : ¬ (mid : Int) < (m : Int) := by omega
      have hgtd : decide ((m : Int) > (mid : Int)) = false := decide_eq_false hgt
      have HZ := Aside0.mk (show (a : Int) = (s0 : Int) ∧ (m : Int) = (r0 : Int) from ⟨by omega, by omega⟩)
      clear h1 h2 h3
      go_wp2
      go_meet
      case rel => exact ⟨by rw [HZ.out.1], by rw [HZ.out.2], rfl⟩
  case rest => as_aux_lemma =>
    obtain ⟨rfl, rfl, rfl⟩ := hcut
    go_wp2
    go_loopg [20, 21] (r0 - s0) (fun g1 vi vj wr => ∃ (s r : Nat), vi = .int .i64 (s : Int) ∧ vj = .int .i64 (r : Int) ∧ s0 ≤ s ∧ s ≤ r ∧ r ≤ r0 ∧ r - s ≤ g1 ∧ Aside0 (SW enc w0 blk off (A ++ L ++ Rr ++ C).toArray wr) ∧ Aside0 (Bs L Rr T a m (mid + m) s0 r0 s r))
    case atStart => exact ⟨s0, r0, rfl, rfl, by omega, by omega, by omega, by omega, S0, ⟨by omega, by omega, by omega, .inl rfl, .inl rfl⟩⟩
    case round => as_aux_lemma =>
      clear S0
      obtain ⟨s, r, rfl, rfl, hs0, hsr, hrr, hg1, S1, HB⟩ := hrel
      by_cases hlt : s < r
      · have hdz : decide ((s : Int) < (r : Int)) = true := decide_eq_true (by omega)
        have hltz : (s : Int) < (r : Int) := by omega
        obtain ⟨h, hh⟩ : ∃ h : Nat, ((s : Int) + (r : Int)) / 2 = (h : Int) := ⟨(s + r) / 2, by omega⟩
        have hih : s ≤ h := by omega
        have hhj : h < r := by omega
        obtain ⟨iN, hiN⟩ : ∃ q, q = mid + m - 1 - h := ⟨_, rfl⟩
        obtain ⟨jN, hjN⟩ : ∃ q, q = h := ⟨_, rfl⟩
        obtain ⟨ix, hix⟩ : ∃ ix : Nat, (mid : Int) + (m : Int) - 1 - (h : Int) = (ix : Int) := ⟨mid + m - 1 - h, by omega⟩
        have ea : ((ix : Int)).toNat = iN := by omega
        have pa : (0 : Int) ≤ (ix : Int) := by omega
        have ra : IntKind.i64.wrap ((ix : Int)) = (ix : Int) := by rw [IntKind.wrap_i64]; omega
        have ba : (ix : Int) < (d0.size : Int) := by omega
        have ec : ((h : Int)).toNat = jN := by omega
        have pc : (0 : Int) ≤ (h : Int) := by omega
        have bc : (h : Int) < (d0.size : Int) := by omega
        obtain ⟨xv, hx⟩ : ∃ z, z = Rr.getD (mid + m - 1 - h - m) default := ⟨_, rfl⟩
        obtain ⟨yv, hy⟩ : ∃ z, z = L.getD (h - a) default := ⟨_, rfl⟩
        have la := clg_arr S1.out R HS.out (mid + m - 1 - h) (by rw [HS.out]; omega)
        have lb := clg_arr S1.out R HS.out h (by rw [HS.out]; omega)
        have gx : (A ++ L ++ Rr ++ C).getD (mid + m - 1 - h) default = xv := by
          obtain ⟨q1, q2, q3, q4, q5⟩ := HE.out
          have := getD_mid2 (A ++ L) Rr C (mid + m - 1 - h - m) (by omega)
          rw [hx, ← this]
          congr 1
          rw [List.length_append]; omega
        have gy : (A ++ L ++ Rr ++ C).getD h default = yv := by
          obtain ⟨q1, q2, q3, q4, q5⟩ := HE.out
          have := getD_mid2 A L (Rr ++ C) (h - a) (by omega)
          rw [hy, ← this, List.append_assoc (A ++ L)]
          congr 1
          omega
        rw [gx, ← hiN] at la
        rw [gy, ← hjN] at lb
        have hc := cmp_arr S1.out HC.out HS.out xv yv
        have HX := Aside0.mk (show xv = _ ∧ yv = _ from ⟨hx, hy⟩)
        clear hx hy hiN hjN gx gy
        have hpx : pos yv < pos xv := by
          rw [HX.out.1, HX.out.2, getD_eq _ _ (by have := HE.out; omega), getD_eq _ _ (by have := HE.out; omega)]
          exact HP.out _ (List.getElem_mem _) _ (List.getElem_mem _)
        have HPX := Aside0.mk hpx
        clear hpx
        by_cases hv : cf xv yv < 0
        · have hd : decide (cf xv yv < 0) = true := decide_eq_true hv
          go_wp2_with fail
          go_quiet_grown (first | (go_at_fn g; refine Calls.grown_of (hc _ _)))
          have S2 := Aside0.mk (S1.out.grown nq osq)
          clear la lb hc S1
          generalize grow (wr.drewN nq) osq = w2 at S2 ⊢
          clear nq osq ea ec
          go_wp2
          go_roundg (h - s)
          case measure => omega
          case rel =>
            refine ⟨s, h, rfl, by first | rfl | go_num | (congr 1; omega), by omega, by omega, by omega, by omega, S2, ⟨by omega, by omega, by omega, HB.out.2.2.2.1, .inr ?_⟩⟩
            rw [← HX.out.1, ← HX.out.2]
            exact X.lt _ _ HPX.out (by omega)
        · have hd : decide (cf xv yv < 0) = false := decide_eq_false hv
          go_wp2_with fail
          go_quiet_grown (first | (go_at_fn g; refine Calls.grown_of (hc _ _)))
          have S2 := Aside0.mk (S1.out.grown nq osq)
          clear la lb hc S1
          generalize grow (wr.drewN nq) osq = w2 at S2 ⊢
          clear nq osq ea ec
          go_wp2
          go_roundg (r - (h + 1))
          case measure => omega
          case rel =>
            refine ⟨h + 1, r, by first | rfl | go_num | (congr 1; omega), rfl, by omega, by omega, by omega, by omega, S2, ⟨by omega, by omega, by omega, .inr ?_, HB.out.2.2.2.2⟩⟩
            rw [show h + 1 - 1 - a = h - a by omega, show mid + m - (h + 1) - m = mid + m - 1 - h - m by omega, ← HX.out.1, ← HX.out.2]
            exact X.ge _ _ HPX.out (by omega)
      · have hij2 : s = r := by omega
        subst hij2
        have hdz : decide ((s : Int) < (s : Int)) = false := decide_eq_false (by omega)
        obtain ⟨en, hen⟩ : ∃ en : Nat, (mid : Int) + (m : Int) - (s : Int) = (en : Int) := ⟨mid + m - s, by omega⟩
        have HEN := Aside0.mk (show en + s = mid + m from by omega)
        obtain ⟨L1, hL1⟩ : ∃ q, q = L.take (s - a) := ⟨_, rfl⟩
        obtain ⟨L2, hL2⟩ : ∃ q, q = L.drop (s - a) := ⟨_, rfl⟩
        obtain ⟨R1, hR1⟩ : ∃ q, q = Rr.take (mid - s) := ⟨_, rfl⟩
        obtain ⟨R2, hR2⟩ : ∃ q, q = Rr.drop (mid - s) := ⟨_, rfl⟩
        have eL : L1 ++ L2 = L := by rw [hL1, hL2, List.take_append_drop]
        have eR : R1 ++ R2 = Rr := by rw [hR1, hR2, List.take_append_drop]
        have l1 : a + L1.length = s := by rw [hL1, List.length_take]; have := HE.out; omega
        have l2 : s + L2.length = m := by rw [hL2, List.length_drop]; have := HE.out; omega
        have l3 : m + R1.length = en := by rw [hR1, List.length_take]; have := HE.out; have := HEN.out; omega
        have l4 : en + R2.length = b := by rw [hR2, List.length_drop]; have := HE.out; have := HEN.out; omega
        have HQ := Aside0.mk (show L1 = _ ∧ L2 = _ ∧ R1 = _ ∧ R2 = _ from ⟨hL1, hL2, hR1, hR2⟩)
        have HLL := Aside0.mk (show a + L1.length = s ∧ s + L2.length = m ∧ m + R1.length = en ∧ en + R2.length = b from ⟨l1, l2, l3, l4⟩)
        have HTS := Aside0.mk (show Srt T L1 ∧ Srt T L2 ∧ Srt T R1 ∧ Srt T R2 from ⟨hL1 ▸ srt_take HTL.out _, hL2 ▸ srt_drop HTL.out _, hR1 ▸ srt_take HTR.out _, hR2 ▸ srt_drop HTR.out _⟩)
        have HPS := Aside0.mk (show (∀ x ∈ L1, ∀ y ∈ R1, pos x < pos y) ∧ (∀ x ∈ L2, ∀ y ∈ R2, pos x < pos y) from ⟨fun x hx y hy => HP.out x (List.mem_of_mem_take (hL1 ▸ hx)) y (List.mem_of_mem_take (hR1 ▸ hy)), fun x hx y hy => HP.out x (List.mem_of_mem_drop (hL2 ▸ hx)) y (List.mem_of_mem_drop (hR2 ▸ hy))⟩)
        have HS2 := Aside0.mk (show A.length + (L1.length + L2.length) + (R1.length + R2.length) + C.length = d0.size from by
          have := HS.out
          rw [← eL, ← eR] at this
          simp only [List.length_append] at this
          omega)
        have S2 := Aside0.mk (show SW enc w0 blk off (A ++ (L1 ++ L2) ++ (R1 ++ R2) ++ C).toArray wr from by rw [eL, eR]; exact S1.out)
        have HEE := Aside0.mk (show L1 ++ L2 = L ∧ R1 ++ R2 = Rr from ⟨eL, eR⟩)
        clear S1 hL1 hL2 hR1 hR2 eL eR l1 l2 l3 l4
        -- the rotation
        obtain ⟨bq, hbq⟩ : ∃ bq : Bool, bq = decide ((s : Int) < (m : Int) ∧ (m : Int) < (en : Int)) := ⟨_, rfl⟩
        have HBQ := Aside0.mk hbq
        clear hbq
        go_upto_region 39 with (fail)
        go_cut [185] (fun v wc => v = .bool bq ∧ wc = wr)
        case first => as_aux_lemma =>
          by_cases a1 : (s : Int) < (m : Int)
          · by_cases a2 : (m : Int) < (en : Int)
            · go_wp2_with fail
              go_meet
              case rel => exact ⟨by rw [HBQ.out]; first | (rw [decide_eq_true (by omega)]; done) | (rw [decide_eq_false (by omega)]; done) | (congr 1; symm; exact decide_eq_true (by omega)) | (congr 1; symm; exact decide_eq_false (by omega)), rfl⟩
            · go_wp2_with fail
              go_meet
              case rel => exact ⟨by rw [HBQ.out]; first | (rw [decide_eq_true (by omega)]; done) | (rw [decide_eq_false (by omega)]; done) | (congr 1; symm; exact decide_eq_true (by omega)) | (congr 1; symm; exact decide_eq_false (by omega)), rfl⟩
          · go_wp2_with fail
            go_meet
            case rel => exact ⟨by rw [HBQ.out]; first | (rw [decide_eq_false (by omega)]; done) | (congr 1; symm; exact decide_eq_false (by omega)), rfl⟩
        case rest => as_aux_lemma =>
          obtain ⟨rfl, rfl⟩ := hcut
          go_upto_if 185 with (fail)
          go_cut [] (fun wc => Aside0 (SW enc w0 blk off (A ++ (L1 ++ R1) ++ (L2 ++ R2) ++ C).toArray wc))
          case first => as_aux_lemma =>
            cases bq with
            | true =>
              have hq : s < m ∧ m < en := by have := of_decide_eq_true HBQ.out.symm; omega
              have hc := rotate_s enc blk off cap d0 w0 _ (.func (.func g) #[] cb) (A ++ L1) L2 R1 (R2 ++ C) s m en R (by have := HS2.out; simp only [List.length_append]; omega) (by have := HE.out; have := HLL.out; rw [List.length_append]; omega) (by have := HE.out; have := HLL.out; rw [List.length_append]; omega) (by have := HE.out; have := HLL.out; rw [List.length_append]; omega) (by have := HLL.out; omega) (by have := HLL.out; omega) hsz (by have := S2.out; simpa only [List.append_assoc] using this)
              have HRC := Aside0.mk hc
              clear hc S2 hq
              go_wp2_with (first | (go_at_call 51; refine HRC.out.mono ?_; rintro e w1 ⟨rfl, S3⟩; have S3 := Aside0.mk S3))
              go_meet
              case rel => exact ⟨by have := S3.out; simpa only [List.append_assoc] using this⟩
            | false =>
              go_wp2
              go_meet
              case rel =>
                refine ⟨?_⟩
                have hq : ¬ (s < m ∧ m < en) := by have := of_decide_eq_false HBQ.out.symm; omega
                have := S2.out
                have hh : L2.length = 0 ∨ R1.length = 0 := by have := HLL.out; omega
                rcases hh with h | h
                · rw [List.length_eq_zero_iff.1 h] at this ⊢; simpa using this
                · rw [List.length_eq_zero_iff.1 h] at this ⊢; simpa using this
          case rest => as_aux_lemma =>
            clear S2 HBQ
            have S3 := hcut
            clear hcut
            have HLEN1 := Aside0.mk (show A.length + L1.length + R1.length = mid from by have := HE.out; have := HLL.out; have := HEN.out; omega)
            obtain ⟨b1, hb1⟩ : ∃ bq : Bool, bq = decide ((a : Int) < (s : Int) ∧ (s : Int) < (mid : Int)) := ⟨_, rfl⟩
            have HB1 := Aside0.mk hb1
            clear hb1
            go_upto_region 41 with (fail)
            go_cut [199] (fun v wd => v = .bool b1 ∧ wd = wc)
            case first => as_aux_lemma =>
              by_cases a1 : (a : Int) < (s : Int)
              · by_cases a2 : (s : Int) < (mid : Int)
                · go_wp2_with fail
                  go_meet
                  case rel => exact ⟨by rw [HB1.out]; first | (rw [decide_eq_true (by omega)]; done) | (congr 1; symm; exact decide_eq_true (by omega)), rfl⟩
                · go_wp2_with fail
                  go_meet
                  case rel => exact ⟨by rw [HB1.out]; first | (rw [decide_eq_false (by omega)]; done) | (congr 1; symm; exact decide_eq_false (by omega)), rfl⟩
              · go_wp2_with fail
                go_meet
                case rel => exact ⟨by rw [HB1.out]; first | (rw [decide_eq_false (by omega)]; done) | (congr 1; symm; exact decide_eq_false (by omega)), rfl⟩
            case rest => as_aux_lemma =>
              obtain ⟨rfl, rfl⟩ := hcut
              go_upto_if 199 with (fail)
              go_cut [] (fun we => ∃ M : List α, Aside0 (Srt T M ∧ M.Perm (L1 ++ R1)) ∧ Aside0 (SW enc w0 blk off (A ++ M ++ (L2 ++ R2) ++ C).toArray we))
              case first => as_aux_lemma =>
                cases b1 with
                | true =>
                  have hq : a < s ∧ s < mid := by have := of_decide_eq_true HB1.out.symm; omega
                  have hc := HII.out A L1 R1 (L2 ++ R2 ++ C) a s mid _ (by omega) (by have := HS2.out; simp only [List.length_append]; omega) (by have := HE.out; omega) (by have := HE.out; have := HLL.out; omega) (by have := HLEN1.out; omega) (by have := HLL.out; omega) (by have := HLL.out; have := HEN.out; omega) HTS.out.1 HTS.out.2.2.1 HPS.out.1 (by have := S3.out; simpa only [List.append_assoc] using this)
                  have HRC := Aside0.mk hc
                  clear hc S3 hq
                  go_wp2_with (first | (go_at_call 50; refine HRC.out.mono ?_; rintro e w1 ⟨rfl, M, hM1, hM2, S4⟩; have S4 := Aside0.mk S4; have HM := Aside0.mk (And.intro hM1 hM2); clear hM1 hM2))
                  go_meet
                  case rel => exact ⟨M, ⟨HM.out⟩, ⟨by have := S4.out; simpa only [List.append_assoc] using this⟩⟩
                | false =>
                  go_wp2
                  go_meet
                  case rel =>
                    have hq : ¬ (a < s ∧ s < mid) := by have := of_decide_eq_false HB1.out.symm; omega
                    exact ⟨L1 ++ R1, ⟨srt_one (by have := HLL.out; have := HEN.out; omega) HTS.out.1 HTS.out.2.2.1, List.Perm.refl _⟩, S3⟩
              case rest => as_aux_lemma =>
                clear S3 HB1
                obtain ⟨M, HM, S4⟩ := hcut
                have HLM := Aside0.mk (show A.length + M.length = mid from by have := HM.out.2.length_eq; rw [List.length_append] at this; have := HLEN1.out; omega)
                obtain ⟨b2, hb2⟩ : ∃ bq : Bool, bq = decide ((mid : Int) < (en : Int) ∧ (en : Int) < (b : Int)) := ⟨_, rfl⟩
                have HB2 := Aside0.mk hb2
                clear hb2
                go_upto_region 43 with (fail)
                go_cut [213] (fun v wd => v = .bool b2 ∧ wd = wc)
                case first => as_aux_lemma =>
                  by_cases a1 : (mid : Int) < (en : Int)
                  · by_cases a2 : (en : Int) < (b : Int)
                    · go_wp2_with fail
                      go_meet
                      case rel => exact ⟨by rw [HB2.out]; first | (rw [decide_eq_true (by omega)]; done) | (congr 1; symm; exact decide_eq_true (by omega)), rfl⟩
                    · go_wp2_with fail
                      go_meet
                      case rel => exact ⟨by rw [HB2.out]; first | (rw [decide_eq_false (by omega)]; done) | (congr 1; symm; exact decide_eq_false (by omega)), rfl⟩
                  · go_wp2_with fail
                    go_meet
                    case rel => exact ⟨by rw [HB2.out]; first | (rw [decide_eq_false (by omega)]; done) | (congr 1; symm; exact decide_eq_false (by omega)), rfl⟩
                case rest => as_aux_lemma =>
                  obtain ⟨rfl, rfl⟩ := hcut
                  have FIN : ∀ N : List α, Srt T N → N.Perm (L2 ++ R2) → Srt T (M ++ N) ∧ (M ++ N).Perm (L ++ Rr) := by
                    intro N hN1 hN2
                    obtain ⟨q1, q2, q3, q4⟩ := HQ.out
                    obtain ⟨p1, p2, p3, p4, p5⟩ := HE.out
                    exact halves' X.ord HTL.out HTR.out (a := a) (m := m) (b := b) (mid := mid) (s := s) (by omega) (by omega) HMID.out p4 p5 H0.out HB.out (by rw [← q1, ← q3]; exact HM.out) (by rw [← q2, ← q4]; exact ⟨hN1, hN2⟩)
                  have HFIN := Aside0.mk FIN
                  clear FIN
                  cases b2 with
                  | true =>
                    have hq : mid < en ∧ en < b := by have := of_decide_eq_true HB2.out.symm; omega
                    have hc := HII.out (A ++ M) L2 R2 C mid en b _ (by omega) (by have := HS2.out; have := HLM.out; have := HLEN1.out; simp only [List.length_append]; omega) (by have := HLM.out; rw [List.length_append]; omega) (by have := HLM.out; have := HLL.out; have := HEN.out; rw [List.length_append]; omega) (by have := HLM.out; have := HLL.out; have := HEN.out; rw [List.length_append]; omega) (by have := HLL.out; have := HEN.out; omega) (by have := HLL.out; omega) HTS.out.2.1 HTS.out.2.2.2 HPS.out.2 (by have := S4.out; simpa only [List.append_assoc] using this)
                    have HRC := Aside0.mk hc
                    clear hc S4 hq
                    go_wp2_with (first | (go_at_call 50; refine HRC.out.mono ?_; rintro e w1 ⟨rfl, N, hN1, hN2, S5⟩; have S5 := Aside0.mk S5; have HN := Aside0.mk (And.intro hN1 hN2); clear hN1 hN2))
                    go_end0
                    obtain ⟨f1, f2⟩ := HFIN.out N HN.out.1 HN.out.2
                    exact ⟨rfl, M ++ N, f1, f2, by have := S5.out; simpa only [List.append_assoc] using this⟩
                  | false =>
                    go_wp2
                    go_end0
                    have hq : ¬ (mid < en ∧ en < b) := by have := of_decide_eq_false HB2.out.symm; omega
                    obtain ⟨f1, f2⟩ := HFIN.out (L2 ++ R2) (srt_one (by have := HLL.out; have := HEN.out; omega) HTS.out.2.1 HTS.out.2.2.2) (List.Perm.refl _)
                    exact ⟨rfl, M ++ (L2 ++ R2), f1, f2, by have := S4.out; simpa only [List.append_assoc] using this⟩
theorem symMerge_s (enc : α → Value) (cf : α → α → Int) (g : Nat) (cb : Array Value) (T : α → α → Bool) (pos : α → Nat) (X : Cx T cf pos) (blk off cap : Nat) (d0 : Array α) (w0 : World) (eg : ∀ args w, (callFunc g args).run Try.prog w = .ok (.enter g args) w) (hcmp : CmpLays1 Try.prog g cb enc cf blk off d0.size w0)
    (R : Row1 enc w0 blk off d0) (hsz : d0.size < 1152921504606846976) : ∀ N, MC T pos enc g cb blk off cap d0 w0 N
  | 0 => fun A L Rr C a m b w hN => absurd hN (by omega)
  | N + 1 => by
    intro A L Rr C a m b w hN hs ha hm hb hL0 hR0 hL hR hp S
    have ih := symMerge_s enc cf g cb T pos X blk off cap d0 w0 eg hcmp R hsz N
    by_cases h1 : L.length = 1
    · obtain ⟨x, rfl⟩ := List.length_eq_one_iff.1 h1
      have e : A ++ [x] ++ Rr ++ C = A ++ x :: Rr ++ C := by simp
      rw [e] at hs S
      exact symOne_s enc cf g cb T pos X blk off cap d0 w0 w eg hcmp A Rr C x a m b R hs ha (by simpa using hm) (by simpa using hb) hsz hR (fun y hy => hp x (by simp) y hy) S
    · by_cases h2 : Rr.length = 1
      · obtain ⟨x, rfl⟩ := List.length_eq_one_iff.1 h2
        have e : A ++ L ++ [x] ++ C = A ++ L ++ x :: C := by simp
        rw [e] at hs S
        refine (symLast_s enc cf g cb T pos X blk off cap d0 w0 w eg hcmp A L C x a m b R hs ha hm (by simpa using hb) h1 hsz hL (fun y hy => hp y hy x (by simp)) S).mono ?_
        rintro e w' ⟨he, M, h3, h4, h5⟩
        exact ⟨he, M, h3, h4.trans (List.perm_append_singleton x L).symm, h5⟩
      · refine symStep_s enc cf g cb T pos X blk off cap d0 w0 w eg hcmp A L Rr C a m b R hs ha hm hb (by omega) (by omega) hsz hL hR hp ?_ S
        intro A' L' R' C' a' m' b' w' h'
        exact ih A' L' R' C' a' m' b' w' (by omega)
end Go.Proofs.YthhaikkicabplaaR.Sort
