/- slices.stableCmpFunc and slices.SortStableFunc at ints, at any length: the row is sorted, equals as they stood. No conditions. -/
import Derived.Test.YthhaikkicabplaaRSymX
import Derived.Test.YthhaikkicabplaaRBlocks
namespace Go.Proofs.YthhaikkicabplaaR.Sort
open Go.Shelf Go.RowKit Go.Lib Go.Sort Tithe.Sym Go.Proofs.YthhaikkicabplaaRW.PrintWords Go.Proofs.YthhaikkicabplaaRW.PrintLast Go.Proofs.YthhaikkicabplaaRW.PrintMore
set_option linter.unusedVariables false
theorem srt_seg {α : Type} {T : α → α → Bool} {cf : α → α → Int} {pos : α → Nat} (X : Cx T cf pos) {xs : List α} (hx : xs.Pairwise fun a b => pos a < pos b) (a b : Nat) : Srt T (Tithe.srt (ltOf cf) (seg xs a b)) := by
  refine srt_srt X.ord (ltOf cf) _ ((seg_pw1 hx a b).imp ?_)
  intro y x hyx
  refine ⟨fun h => X.lt _ _ hyx (of_decide_eq_true h), fun h => X.ge _ _ hyx (of_decide_eq_false h)⟩
variable {α : Type} [Inhabited α]
def ins_ren : Ren := ⟨fun | 20 => 49 | n => n, fun | 0 => 0 | 3 => 3 | 4 => 4 | 22 => 23 | 24 => 3 | 25 => 80 | n => n, fun n => n⟩
theorem ins_lay : SlLaysF.n20 Try.prog ins_ren := { mixed := by kernel_rfl, f20 := ⟨Try.f49.name, by kernel_rfl, by kernel_rfl⟩, t0 := by kernel_rfl, a0 := fun _ => by kernel_rfl, z0 := fun _ => by kernel_rfl, v0 := fun _ => by kernel_rfl, t3 := by kernel_rfl, a3 := fun _ => by kernel_rfl, z3 := fun _ => by kernel_rfl, v3 := fun _ => by kernel_rfl, t4 := by kernel_rfl, a4 := fun _ => by kernel_rfl, z4 := fun _ => by kernel_rfl, v4 := fun _ => by kernel_rfl, t22 := by kernel_rfl, a22 := fun _ => by kernel_rfl, z22 := fun _ => by kernel_rfl, v22 := fun _ => by kernel_rfl, a24 := fun _ => by kernel_rfl, z24 := fun _ => by kernel_rfl, t25 := by kernel_rfl, a25 := fun _ => by kernel_rfl, z25 := fun _ => by kernel_rfl, v25 := fun _ => by kernel_rfl }

theorem insert_s (enc : α → Value) (cf : α → α → Int) (g : Nat) (cb : Array Value) (blk off cap : Nat) (d0 : Array α) (w0 w : World) (eg : ∀ args w, (callFunc g args).run Try.prog w = .ok (.enter g args) w) (hcmp : CmpLays1 Try.prog g cb enc cf blk off d0.size w0)
    (R : Row1 enc w0 blk off d0) (hsz : d0.size < 1152921504606846976) (d : List α) (hd : d.length = d0.size) (a b : Nat) (hab : a ≤ b) (hb : b ≤ d.length) (S : SW enc w0 blk off d.toArray w) :
    Calls Try.prog 49 #[.slice (some ⟨blk, off, none⟩) d0.size cap, .int .i64 (a : Int), .int .i64 (b : Int), .func (.func g) #[] cb] w fun e w' => e = .returned (.tuple #[]) ∧ SW enc w0 blk off (d.take a ++ Tithe.srt (ltOf cf) (seg d a b) ++ d.drop b).toArray w' := by
  have h := Any.insertionSortCmpFunc_s ins_lay enc cf g cb blk off cap a b d0 d.toArray w0 w eg hcmp R (by simpa using hd.symm) S hab (by simpa using hb) (by simp; omega)
  have e : insertionSort (ltOf cf) d.toArray a b = (d.take a ++ Tithe.srt (ltOf cf) (seg d a b) ++ d.drop b).toArray := by
    have hs := seg_split d a b hab
    have := insertionSort_seg (ltOf cf) (d.take a) (seg d a b) (d.drop b) (a := a) (b := b) (by rw [List.length_take]; omega) (by rw [List.length_take, seg_len d a b hb]; omega)
    rw [← hs] at this
    exact this
  rw [e] at h
  have e2 : d.toArray.size = d0.size := by simpa using hd
  rw [e2] at h
  exact h
theorem ins_none (a : Option Addr) (c : Nat) (fv : Value) (w : World) :
    Calls Try.prog 49 #[.slice a 0 c, .int .i64 0, .int .i64 0, fv] w fun e w' => e = .returned (.tuple #[]) ∧ w' = w := by
  go_enter Try.func49, Try.ntmps49
  go_wp2
  go_loopg [8] 0 (fun gg v8 wr => v8 = .int .i64 1 ∧ wr = w)
  case atStart => exact ⟨rfl, rfl⟩
  case round =>
    obtain ⟨rfl, rfl⟩ := hrel
    go_wp2
    go_end0
    exact ⟨rfl, rfl⟩

set_option maxHeartbeats 8000000 in
set_option maxRecDepth 1000000 in
theorem stable_s (enc : α → Value) (cf : α → α → Int) (g : Nat) (cb : Array Value) (T : α → α → Bool) (pos : α → Nat) (X : Cx T cf pos) (blk off cap : Nat) (d0 : Array α) (w0 w : World) (eg : ∀ args w, (callFunc g args).run Try.prog w = .ok (.enter g args) w) (hcmp : CmpLays1 Try.prog g cb enc cf blk off d0.size w0)
    (R : Row1 enc w0 blk off d0) (hsz : d0.size < 1152921504606846976) (xs : List α) (hxs : xs.length = d0.size) (hx : xs.Pairwise fun a b => pos a < pos b) (S : SW enc w0 blk off xs.toArray w) :
    Calls Try.prog 47 #[.slice (some ⟨blk, off, none⟩) d0.size cap, .int .i64 (d0.size : Int), .func (.func g) #[] cb] w fun e w' => e = .returned (.tuple #[]) ∧ ∃ d, Srt T d ∧ d.Perm xs ∧ SW enc w0 blk off d.toArray w' := by
  obtain ⟨n, hn⟩ : ∃ n, n = d0.size := ⟨_, rfl⟩
  have INS : ∀ (w : World) (d : List α) (hd : d.length = n) (a b : Nat) (hab : a ≤ b) (hb : b ≤ d.length) (S : SW enc w0 blk off d.toArray w), Calls Try.prog 49 #[.slice (some ⟨blk, off, none⟩) n cap, .int .i64 (a : Int), .int .i64 (b : Int), .func (.func g) #[] cb] w fun e w' => e = .returned (.tuple #[]) ∧ SW enc w0 blk off (d.take a ++ Tithe.srt (ltOf cf) (seg d a b) ++ d.drop b).toArray w' := by
    subst hn
    exact fun w d hd a b hab hb S => insert_s enc cf g cb blk off cap d0 w0 w eg hcmp R hsz d hd a b hab hb S
  have MRG : ∀ (w : World) (d : List α) (hd : d.length = n) (a m b : Nat) (ham : a < m) (hmb : m < b) (hb : b ≤ d.length) (h1 : Srt T (seg d a m)) (h2 : Srt T (seg d m b)) (hp : ∀ x ∈ seg d a m, ∀ y ∈ seg d m b, pos x < pos y) (S : SW enc w0 blk off d.toArray w), Calls Try.prog 50 #[.slice (some ⟨blk, off, none⟩) n cap, .int .i64 (a : Int), .int .i64 (m : Int), .int .i64 (b : Int), .func (.func g) #[] cb] w fun e w' => e = .returned (.tuple #[]) ∧ ∃ M, Srt T M ∧ M.Perm (seg d a m ++ seg d m b) ∧ SW enc w0 blk off (d.take a ++ M ++ d.drop b).toArray w' := by
    subst hn
    intro w d hd a m b ham hmb hb h1 h2 hp S
    have e : d.take a ++ seg d a m ++ seg d m b ++ d.drop b = d := by
      rw [List.append_assoc (d.take a), seg_join d a m b (by omega) (by omega)]
      exact (seg_split d a b (by omega)).symm
    have lt : (d.take a).length = a := by rw [List.length_take]; omega
    have l1 : (seg d a m).length = m - a := seg_len d a m (by omega)
    have l2 : (seg d m b).length = b - m := seg_len d m b (by omega)
    exact symMerge_s enc cf g cb T pos X blk off cap d0 w0 eg hcmp R hsz (b - a + 1) (d.take a) (seg d a m) (seg d m b) (d.drop b) a m b w (by omega) (by rw [e]; exact hd) (by omega) (by omega) (by omega) (by omega) (by omega) h1 h2 hp (by rw [e]; exact S)
  have hnn : n < 1152921504606846976 := by omega
  rw [← hn]
  have HN := Aside0.mk (show xs.length = n from by omega)
  have HX := Aside0.mk hx
  have HINS := Aside0.mk INS
  have HMRG := Aside0.mk MRG
  have S0 := Aside0.mk S
  have HXX := Aside0.mk X
  clear hn hxs hx INS MRG S R hcmp eg hsz X
  go_enter Try.func47, Try.ntmps47
  go_wp2
  go_loopg [7, 8] n (fun gg v7 v8 wr => ∃ (k a : Nat) (dk : List α), v7 = .int .i64 (a : Int) ∧ v8 = .int .i64 ((a : Int) + 20) ∧ a ≤ n ∧ n - a ≤ gg ∧ Aside0 (a = k * 20) ∧ Aside0 (P1 T xs dk 20 k) ∧ Aside0 (SW enc w0 blk off dk.toArray wr))
  case atStart => exact ⟨0, 0, xs, rfl, rfl, by omega, by omega, ⟨by omega⟩, ⟨p1_start 20⟩, S0⟩
  case round =>
    clear S0
    obtain ⟨k, a, dk, rfl, rfl, han, hgg, HA, HP, S1⟩ := hrel
    have HL := Aside0.mk (show dk.length = n from by have := HP.out.1; have := HN.out; omega)
    have HSEG := Aside0.mk (show ∀ b, seg dk a b = seg xs a b from fun b => by have := HP.out.2.2; rw [← HA.out] at this; unfold seg; rw [this])
    by_cases hb : a + 20 ≤ n
    · have hbz : (a : Int) + 20 ≤ (n : Int) := by omega
      have hbd : decide ((a : Int) + 20 ≤ (n : Int)) = true := decide_eq_true hbz
      have hc := HINS.out wr dk HL.out a (a + 20) (by omega) (by rw [HL.out]; exact hb) S1.out
      rw [show ((a + 20 : Nat) : Int) = (a : Int) + 20 by omega] at hc
      have HC := Aside0.mk hc
      clear hc S1
      go_wp2_with (first | (go_at_call 49; refine HC.out.mono ?_; rintro e w1 ⟨rfl, S2⟩; have S2 := Aside0.mk S2))
      go_roundg (n - (a + 20))
      case measure => omega
      case rel =>
        have hs := srt_seg HXX.out HX.out a (a + 20)
        have hp : (Tithe.srt (ltOf cf) (seg xs a (a + 20))).Perm (seg xs a (a + 20)) := Tithe.srt_perm _ _
        rw [← HSEG.out] at hs hp
        have hst := p1_step HP.out (b := a + 20) (by rw [HL.out]; exact hb) (by have := HA.out; omega) (by have := HA.out; omega) (.inr (by have := HA.out; omega)) hs (by rw [← HA.out]; exact hp)
        rw [← HA.out] at hst
        exact ⟨k + 1, a + 20, _, by first | rfl | go_num | (congr 1; omega), by first | rfl | go_num | (congr 1; omega), by omega, by omega, ⟨by have := HA.out; omega⟩, ⟨hst⟩, S2⟩
    · have hbz : ¬ (a : Int) + 20 ≤ (n : Int) := by omega
      have hbd : decide ((a : Int) + 20 ≤ (n : Int)) = false := decide_eq_false hbz
      have hc := HINS.out wr dk HL.out a n han (by rw [HL.out]; exact Nat.le_refl _) S1.out
      have HC := Aside0.mk hc
      clear hc S1
      have HG := Aside0.mk (show (dk.take a ++ Tithe.srt (ltOf cf) (seg dk a n) ++ dk.drop n).length = xs.length ∧ ∀ q, Tithe.Sym.Good T xs (dk.take a ++ Tithe.srt (ltOf cf) (seg dk a n) ++ dk.drop n) (q * 20) 20 from by
        have hs := srt_seg HXX.out HX.out a n
        have hp : (Tithe.srt (ltOf cf) (seg xs a n)).Perm (seg xs a n) := Tithe.srt_perm _ _
        rw [← HSEG.out] at hs hp
        have hst := p1_step HP.out (b := n) (by rw [HL.out]; exact Nat.le_refl _) (by have := HA.out; omega) (by have := HA.out; omega) (.inl HL.out.symm) hs (by rw [← HA.out]; exact hp)
        rw [← HA.out] at hst
        exact p1_end hst (by have := HA.out; have := HN.out; omega))
      generalize dk.take a ++ Tithe.srt (ltOf cf) (seg dk a n) ++ dk.drop n = d1 at HC HG
      clear HP HA HL HSEG
      go_wp2_with (first | (go_at_call 49; refine HC.out.mono ?_; rintro e w1 ⟨rfl, S2⟩; have S2 := Aside0.mk S2))
      go_loopg [6] n (fun gg v6 wr => ∃ (s : Nat) (dk : List α), v6 = .int .i64 (s : Int) ∧ 20 ≤ s ∧ s ≤ 2 * n + 20 ∧ n - s ≤ gg ∧ Aside0 (dk.length = xs.length ∧ ∀ q, Tithe.Sym.Good T xs dk (q * s) s) ∧ Aside0 (SW enc w0 blk off dk.toArray wr))
      case atStart => exact ⟨20, d1, rfl, by omega, by omega, by omega, HG, S2⟩
      case round =>
        clear S2 HG HC
        obtain ⟨s, dk, rfl, hs20, hs2n, hgg2, HG, S2⟩ := hrel
        by_cases hsn : s < n
        · have hsz : (s : Int) < (n : Int) := by omega
          have hsd : decide ((s : Int) < (n : Int)) = true := decide_eq_true hsz
          go_wp2
          go_loopg [7, 8] n (fun g3 v7 v8 wr => ∃ (k a : Nat) (dk : List α), v7 = .int .i64 (a : Int) ∧ v8 = .int .i64 ((a : Int) + 2 * (s : Int)) ∧ a ≤ n ∧ n - a ≤ g3 ∧ Aside0 (a = k * (2 * s)) ∧ Aside0 (P2 T xs dk s k) ∧ Aside0 (SW enc w0 blk off dk.toArray wr))
          case atStart => exact ⟨0, 0, dk, rfl, by first | rfl | go_num | (congr 1; omega), by omega, by omega, ⟨by omega⟩, ⟨p2_start HG.out⟩, S2⟩
          case round =>
            clear S2 HG
            obtain ⟨k, a, dk, rfl, rfl, han, hg3, HA, HP, S3⟩ := hrel
            have HL := Aside0.mk (show dk.length = n from by have := HP.out.1; have := HN.out; omega)
            by_cases hb : a + 2 * s ≤ n
            · have hbz : (a : Int) + 2 * (s : Int) ≤ (n : Int) := by omega
              have hbd : decide ((a : Int) + 2 * (s : Int) ≤ (n : Int)) = true := decide_eq_true hbz
              have two := p2_two HP.out (b := a + 2 * s) (by rw [← HA.out]; omega) (by rw [HL.out]; exact hb) (.inr (by rw [← HA.out]))
              rw [← HA.out] at two
              obtain ⟨t1, t2, t3, t4⟩ := two
              have hc := HMRG.out wr dk HL.out a (a + s) (a + 2 * s) (by omega) (by omega) (by rw [HL.out]; exact hb) t1 t2 (fun x hx y hy => seg_pw HX.out a (a + s) (a + 2 * s) (by omega) (by omega) x (t3.mem_iff.1 hx) y (t4.mem_iff.1 hy)) S3.out
              rw [show ((a + 2 * s : Nat) : Int) = (a : Int) + 2 * (s : Int) by omega, show ((a + s : Nat) : Int) = (a : Int) + (s : Int) by omega] at hc
              have HC := Aside0.mk hc
              clear hc S3 t1 t2 t3 t4
              go_wp2_with (first | (go_at_call 50; refine HC.out.mono ?_; rintro e w1 ⟨rfl, M, hM1, hM2, S4⟩; have S4 := Aside0.mk S4; have HM := Aside0.mk (And.intro hM1 hM2); clear hM1 hM2))
              go_roundg (n - (a + 2 * s))
              case measure => omega
              case rel =>
                have hst := p2_step HP.out (b := a + 2 * s) (M := M) (by rw [← HA.out]; omega) (by rw [HL.out]; exact hb) (.inr (by rw [← HA.out])) HM.out.1 (by rw [← HA.out]; exact HM.out.2)
                rw [← HA.out] at hst
                exact ⟨k + 1, a + 2 * s, _, by first | rfl | go_num | (congr 1; omega), by first | rfl | go_num | (congr 1; omega), by omega, by omega, ⟨by have := HA.out; rw [show (k + 1) * (2 * s) = k * (2 * s) + 2 * s from Nat.succ_mul _ _]; omega⟩, ⟨hst⟩, S4⟩
            · have hbz : ¬ (a : Int) + 2 * (s : Int) ≤ (n : Int) := by omega
              have hbd : decide ((a : Int) + 2 * (s : Int) ≤ (n : Int)) = false := decide_eq_false hbz
              by_cases hm : a + s < n
              · have hmz : (a : Int) + (s : Int) < (n : Int) := by omega
                have hmd : decide ((a : Int) + (s : Int) < (n : Int)) = true := decide_eq_true hmz
                have two := p2_two HP.out (b := n) (by rw [← HA.out]; omega) (by rw [HL.out]; exact Nat.le_refl _) (.inl ⟨HL.out.symm, by rw [← HA.out]; omega⟩)
                rw [← HA.out] at two
                obtain ⟨t1, t2, t3, t4⟩ := two
                have hc := HMRG.out wr dk HL.out a (a + s) n (by omega) (by omega) (by rw [HL.out]; exact Nat.le_refl _) t1 t2 (fun x hx y hy => seg_pw HX.out a (a + s) (a + 2 * s) (by omega) (by omega) x (t3.mem_iff.1 hx) y (t4.mem_iff.1 hy)) S3.out
                rw [show ((a + s : Nat) : Int) = (a : Int) + (s : Int) by omega] at hc
                have HC := Aside0.mk hc
                clear hc S3 t1 t2 t3 t4
                go_wp2_with (first | (go_at_call 50; refine HC.out.mono ?_; rintro e w1 ⟨rfl, M, hM1, hM2, S4⟩; have S4 := Aside0.mk S4; have HM := Aside0.mk (And.intro hM1 hM2); clear hM1 hM2))
                go_roundg (n - 2 * s)
                case measure => omega
                case rel =>
                  have hst := p2_step HP.out (b := n) (M := M) (by rw [← HA.out]; omega) (by rw [HL.out]; exact Nat.le_refl _) (.inl ⟨HL.out.symm, by rw [← HA.out]; omega⟩) HM.out.1 (by rw [← HA.out]; exact HM.out.2)
                  rw [← HA.out] at hst
                  exact ⟨2 * s, _, by first | rfl | go_num | (congr 1; omega), by omega, by omega, by omega, ⟨p2_end hst (by rw [show (k + 1) * (2 * s) = k * (2 * s) + 2 * s from Nat.succ_mul _ _, ← HA.out]; have := HN.out; omega)⟩, S4⟩
              · have hmz : ¬ (a : Int) + (s : Int) < (n : Int) := by omega
                have hmd : decide ((a : Int) + (s : Int) < (n : Int)) = false := decide_eq_false hmz
                go_wp2
                go_roundg (n - 2 * s)
                case measure => omega
                case rel => exact ⟨2 * s, dk, by first | rfl | go_num | (congr 1; omega), by omega, by omega, by omega, ⟨p2_last HP.out (by rw [← HA.out]; have := HN.out; omega)⟩, S3⟩
        · have hsz : ¬ (s : Int) < (n : Int) := by omega
          have hsd : decide ((s : Int) < (n : Int)) = false := decide_eq_false hsz
          go_wp2
          go_end0
          obtain ⟨f1, f2⟩ := good_all HG.out (by have := HN.out; omega)
          exact ⟨rfl, dk, f1, f2, S2.out⟩
end Go.Proofs.YthhaikkicabplaaR.Sort
