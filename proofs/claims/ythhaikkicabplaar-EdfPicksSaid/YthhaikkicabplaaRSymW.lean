/- Proved here: what swapRangeCmpFunc and rotateCmpFunc do to a row: two stretches changed, two neighbouring stretches changed. No conditions. -/
import Derived.Shelf.SlSortCmp.Insertion1
import Derived.Test.YthhaikkicabplaaRProg
import Derived.Test.YthhaikkicabplaaRWWords
import Derived.Test.YthhaikkicabplaaRWLast
import Derived.Test.YthhaikkicabplaaRWMore
import Derived.Test.YthhaikkicabplaaRMerge
namespace Go.Proofs.YthhaikkicabplaaR.Sort
open Go.Shelf Go.RowKit Go.Lib Go.Sort Tithe.Sym Go.Proofs.YthhaikkicabplaaRW.PrintWords Go.Proofs.YthhaikkicabplaaRW.PrintLast Go.Proofs.YthhaikkicabplaaRW.PrintMore
set_option linter.unusedVariables false
variable {α : Type} [Inhabited α]
theorem cl_arr {enc : α → Value} {w0 W : World} {blk off : Nat} {d0 : Array α} {xs : List α} (h : SW enc w0 blk off xs.toArray W) (R : Row1 enc w0 blk off d0) (hs : xs.length = d0.size) (i : Nat) (hi : i < xs.length) : W.cell? ⟨blk, off + i, none⟩ = some (enc (xs.getD i default)) := by
  rw [← get_arr]; exact h.c1 R (by simpa using hs) i (by simpa using hi)
theorem f_arr {enc : α → Value} {w0 W : World} {blk off : Nat} {d0 : Array α} {xs : List α} (h : SW enc w0 blk off xs.toArray W) (R : Row1 enc w0 blk off d0) (hs : xs.length = d0.size) (i : Nat) (hi : i < xs.length) : W.frozen? ⟨blk, off + i, none⟩ = false := h.f1 R (by simpa using hs) i (by simpa using hi)
theorem c2_arr {enc : α → Value} {w0 W : World} {blk off : Nat} {d0 : Array α} {xs : List α} (h : SW enc w0 blk off xs.toArray W) (R : Row1 enc w0 blk off d0) (hs : xs.length = d0.size) (i j : Nat) (hi : i < xs.length) (hj : j < xs.length) (v : Value) : ∃ u, (W.setCell ⟨blk, off + i, none⟩ v).cell? ⟨blk, off + j, none⟩ = some u := h.c2 R (by simpa using hs) i j (by simpa using hi) (by simpa using hj) v
theorem swapped_arr {enc : α → Value} {w0 W : World} {blk off : Nat} {d0 : Array α} {xs : List α} (h : SW enc w0 blk off xs.toArray W) (R : Row1 enc w0 blk off d0) (i j : Nat) (hi : i < xs.length) (hj : j < xs.length) :
    SW enc w0 blk off (sw default xs i j).toArray ((W.setCell ⟨blk, off + i, none⟩ (enc (xs.getD j default))).setCell ⟨blk, off + j, none⟩ (enc (xs.getD i default))).drew := by
  have := h.swapped R i j (by simpa using hi) (by simpa using hj)
  rw [swp_arr, get_arr, get_arr] at this
  exact this

set_option maxHeartbeats 4000000 in
set_option maxRecDepth 1000000 in
theorem swapRange_s (enc : α → Value) (blk off cap : Nat) (d0 : Array α) (w0 w : World) (fv : Value) (A X B Y C : List α) (a b n : Nat) (R : Row1 enc w0 blk off d0) (hs : (A ++ X ++ B ++ Y ++ C).length = d0.size) (ha : a = A.length) (hn : n = X.length) (hn2 : n = Y.length) (hb : b = A.length + X.length + B.length) (hsz : d0.size < 1152921504606846976)
    (S : SW enc w0 blk off (A ++ X ++ B ++ Y ++ C).toArray w) :
    Calls Try.prog 52 #[.slice (some ⟨blk, off, none⟩) d0.size cap, .int .i64 (a : Int), .int .i64 (b : Int), .int .i64 (n : Int), fv] w fun e w' => e = .returned (.tuple #[]) ∧ SW enc w0 blk off (A ++ Y ++ B ++ X ++ C).toArray w' := by
  have hm : Try.prog.follows .mixedOrders = true := by kernel_rfl
  have hcl0 := R.hO.cells
  simp only [Value.cells] at hcl0
  have hst := R.hO.store Try.prog
  have hlen : A.length + X.length + B.length + Y.length + C.length = d0.size := by
    simp only [List.length_append] at hs; omega
  have S0 : Aside (SW enc w0 blk off (A ++ X ++ B ++ Y ++ C).toArray w) := S
  have HS : Aside ((A ++ X ++ B ++ Y ++ C).length = d0.size) := hs
  have HE : Aside (a = A.length ∧ b = A.length + X.length + B.length ∧ n = X.length ∧ n = Y.length) := ⟨ha, hb, hn, hn2⟩
  have hab : a + n ≤ b := by omega
  have hbn : b + n ≤ d0.size := by omega
  clear S hs ha hb hn hn2 hlen
  go_enter Try.func52, Try.ntmps52
  go_wp2
  go_loopg [10] n (fun g1 vi wr => ∃ (k : Nat) (dk : List α), vi = .int .i64 (k : Int) ∧ k ≤ n ∧ n - k ≤ g1 ∧ dk.length = d0.size ∧ Aside (SW enc w0 blk off dk.toArray wr) ∧ Aside (dk = A ++ (Y.take k ++ X.drop k) ++ B ++ (X.take k ++ Y.drop k) ++ C))
  case atStart => exact ⟨0, _, by go_num, by omega, by omega, HS.out, S0, by simp [Aside]⟩
  case round =>
    clear S0
    obtain ⟨k, dk, rfl, hk, hg1, hds, S1, HD⟩ := hrel
    by_cases hlt : k < n
    · have hltz : (k : Int) < (n : Int) := by omega
      have hdz : decide ((k : Int) < (n : Int)) = true := decide_eq_true hltz
      go_wp2_with fail
      obtain ⟨iN, hiN⟩ : ∃ q, q = a + k := ⟨_, rfl⟩
      obtain ⟨jN, hjN⟩ : ∃ q, q = b + k := ⟨_, rfl⟩
      have ea : ((a : Int) + (k : Int)).toNat = iN := by omega
      have pa : (0 : Int) ≤ (a : Int) + (k : Int) := by omega
      have ba : (a : Int) + (k : Int) < (d0.size : Int) := by omega
      have ra : IntKind.i64.wrap ((a : Int) + (k : Int)) = (a : Int) + (k : Int) := by rw [IntKind.wrap_i64]; omega
      have ec : ((b : Int) + (k : Int)).toNat = jN := by omega
      have pc : (0 : Int) ≤ (b : Int) + (k : Int) := by omega
      have bc : (b : Int) + (k : Int) < (d0.size : Int) := by omega
      have rc : IntKind.i64.wrap ((b : Int) + (k : Int)) = (b : Int) + (k : Int) := by rw [IntKind.wrap_i64]; omega
      obtain ⟨x, hx⟩ : ∃ x, x = dk.getD (a + k) default := ⟨_, rfl⟩
      obtain ⟨y, hy⟩ : ∃ x, x = dk.getD (b + k) default := ⟨_, rfl⟩
      have S2 : Aside (SW enc w0 blk off (sw default dk (a + k) (b + k)).toArray ((wr.setCell ⟨blk, off + iN, none⟩ (enc y)).setCell ⟨blk, off + jN, none⟩ (enc x)).drew) := by rw [hiN, hjN, hx, hy]; exact swapped_arr S1.out R (a + k) (b + k) (by omega) (by omega)
      have c1 := cl_arr S1.out R hds (a + k) (by omega)
      have c2 := cl_arr S1.out R hds (b + k) (by omega)
      have f1 := f_arr S1.out R hds (a + k) (by omega)
      have f2 := f_arr S1.out R hds (b + k) (by omega)
      obtain ⟨u, c3⟩ := c2_arr S1.out R hds (a + k) (b + k) (by omega) (by omega) (enc y)
      rw [← hjN, ← hiN] at c3
      rw [← hx, ← hiN] at c1
      rw [← hy, ← hjN] at c2
      rw [← hiN] at f1
      rw [← hjN] at f2
      clear S1 hx hy hiN hjN
      go_wp2_with fail
      go_big_region_o
      clear c1 c2 c3 f1 f2
      generalize ((wr.setCell ⟨blk, off + iN, none⟩ (enc y)).setCell ⟨blk, off + jN, none⟩ (enc x)).drew = w2 at S2 ⊢
      clear ea ec
      go_wp2
      go_roundg (n - (k + 1))
      case measure => omega
      case rel => exact ⟨k + 1, sw default dk (a + k) (b + k), by first | rfl | go_num | (congr 1; omega), by omega, by omega, by rw [sw_len]; exact hds, S2, by
        unfold Aside
        obtain ⟨ha, hb, hn, hn2⟩ := HE.out
        rw [HD.out, ha, hb]
        exact sw_range default (by omega) (by omega)⟩
    · have hdz : decide ((k : Int) < (n : Int)) = false := decide_eq_false (by omega)
      go_wp2
      go_end0
      refine ⟨rfl, ?_⟩
      have e : dk = A ++ Y ++ B ++ X ++ C := by
        obtain ⟨ha, hb, hn, hn2⟩ := HE.out
        have hkn : k = n := by omega
        rw [HD.out, hkn]
        rw [List.take_of_length_le (by omega), List.drop_of_length_le (by omega), List.take_of_length_le (l := X) (by omega), List.drop_of_length_le (l := Y) (by omega)]
        simp
      rw [← e]
      exact S1.out
set_option maxHeartbeats 4000000 in
set_option maxRecDepth 1000000 in
theorem rotate_s (enc : α → Value) (blk off cap : Nat) (d0 : Array α) (w0 w : World) (fv : Value) (A U V C : List α) (a m b : Nat) (R : Row1 enc w0 blk off d0) (hs : (A ++ U ++ V ++ C).length = d0.size) (ha : a = A.length) (hm : m = A.length + U.length) (hb : b = A.length + U.length + V.length) (hU : 0 < U.length) (hV : 0 < V.length) (hsz : d0.size < 1152921504606846976)
    (S : SW enc w0 blk off (A ++ U ++ V ++ C).toArray w) :
    Calls Try.prog 51 #[.slice (some ⟨blk, off, none⟩) d0.size cap, .int .i64 (a : Int), .int .i64 (m : Int), .int .i64 (b : Int), fv] w fun e w' => e = .returned (.tuple #[]) ∧ SW enc w0 blk off (A ++ V ++ U ++ C).toArray w' := by
  have hlen : A.length + U.length + V.length + C.length = d0.size := by
    simp only [List.length_append] at hs; omega
  have S0 : Aside (SW enc w0 blk off (A ++ U ++ V ++ C).toArray w) := S
  have HS : Aside ((A ++ U ++ V ++ C).length = d0.size) := hs
  have HE : Aside (a = A.length ∧ m = A.length + U.length ∧ b = A.length + U.length + V.length ∧ 0 < U.length ∧ 0 < V.length) := ⟨ha, hm, hb, hU, hV⟩
  have ham : a < m := by omega
  have hmb : m < b := by omega
  have hbs : b ≤ d0.size := by omega
  have HR : Aside (Row1 enc w0 blk off d0) := R
  clear S hs ha hm hb hU hV hlen R
  go_enter Try.func51, Try.ntmps51
  go_wp2
  go_loopg [10, 11] (b - a) (fun g1 vi vj wr => ∃ (i j : Nat) (A1 U1 V1 C1 : List α), vi = .int .i64 (i : Int) ∧ vj = .int .i64 (j : Int) ∧ 0 < i ∧ 0 < j ∧ i ≤ m ∧ m + j ≤ d0.size ∧ i + j ≤ g1 ∧ Aside (A1.length + i = m ∧ U1.length = i ∧ V1.length = j ∧ (A1 ++ U1 ++ V1 ++ C1).length = d0.size) ∧ Aside (SW enc w0 blk off (A1 ++ U1 ++ V1 ++ C1).toArray wr) ∧ Aside (A1 ++ V1 ++ U1 ++ C1 = A ++ V ++ U ++ C))
  case atStart =>
    obtain ⟨h1, h2, h3, h4, h5⟩ := HE.out
    exact ⟨m - a, b - m, A, U, V, C, by first | rfl | go_num | (congr 1; omega), by first | rfl | go_num | (congr 1; omega), by omega, by omega, by omega, by omega, by omega, ⟨by omega, by omega, by omega, HS.out⟩, S0, rfl⟩
  case round =>
    clear S0
    obtain ⟨i, j, A1, U1, V1, C1, rfl, rfl, hi, hj, him, hjm, hg1, HL, S1, HF⟩ := hrel
    by_cases hij : i = j
    · have hd : decide ((i : Int) ≠ (j : Int)) = false := decide_eq_false (by omega)
      have hz : (i : Int) = (j : Int) := by omega
      have hc := swapRange_s enc blk off cap d0 w0 wr fv A1 U1 [] V1 C1 (m - i) m i HR.out (by simpa using HL.out.2.2.2) (by have := HL.out; omega) (by have := HL.out; omega) (by have := HL.out; omega) (by have := HL.out; simp; omega) hsz (by simpa using S1.out)
      rw [show ((m - i : Nat) : Int) = (m : Int) - (i : Int) by omega] at hc
      have HC := Aside0.mk hc
      clear hc
      clear S1
      subst hij
      go_wp2_with (first | (go_at_call 52; refine HC.out.mono ?_; rintro e w1 ⟨rfl, S2⟩; have S2 := Aside0.mk S2))
      go_end0
      refine ⟨rfl, ?_⟩
      have := S2.out
      rw [← HF.out]
      simpa using this
    · have hd : decide ((i : Int) ≠ (j : Int)) = true := decide_eq_true (by omega)
      have hz : ¬ (i : Int) = (j : Int) := by omega
      by_cases hlt : j < i
      · have hd2 : decide ((i : Int) > (j : Int)) = true := decide_eq_true (by omega)
        have hd3 : (j : Int) < (i : Int) := by omega
        have hc := swapRange_s enc blk off cap d0 w0 wr fv A1 (U1.take j) (U1.drop j) V1 C1 (m - i) m j HR.out (by have := HL.out.2.2.2; rw [List.append_assoc A1 (U1.take j), List.take_append_drop]; exact this) (by have := HL.out; omega) (by have := HL.out; rw [List.length_take]; omega) (by have := HL.out; omega) (by have := HL.out; rw [List.length_take, List.length_drop]; omega) hsz (by have := S1.out; rw [List.append_assoc A1 (U1.take j), List.take_append_drop]; exact this)
        rw [show ((m - i : Nat) : Int) = (m : Int) - (i : Int) by omega] at hc
        have HC := Aside0.mk hc
        clear hc
        clear S1
        go_wp2_with (first | (go_at_call 52; refine HC.out.mono ?_; rintro e w1 ⟨rfl, S2⟩; have S2 := Aside0.mk S2))
        go_roundg (i - j + j)
        case measure => omega
        case rel =>
          obtain ⟨l1, l2, l3, l4⟩ := HL.out
          refine ⟨i - j, j, A1 ++ V1, U1.drop j, U1.take j, C1, by first | rfl | go_num | (congr 1; omega), by first | rfl | go_num | (congr 1; omega), by omega, by omega, by omega, by omega, by omega, ⟨by rw [List.length_append]; omega, by rw [List.length_drop]; omega, by rw [List.length_take]; omega, ?_⟩, S2.out, ?_⟩
          · rw [← l4]; simp only [List.length_append, List.length_drop, List.length_take]; omega
          · show _ = _
            rw [← HF.out]
            rw [List.append_assoc (A1 ++ V1), List.take_append_drop]
      · have hd2 : decide ((i : Int) > (j : Int)) = false := decide_eq_false (by omega)
        have hd3 : ¬ (j : Int) < (i : Int) := by omega
        have hc := swapRange_s enc blk off cap d0 w0 wr fv A1 U1 (V1.take (j - i)) (V1.drop (j - i)) C1 (m - i) (m + j - i) i HR.out (by have := HL.out.2.2.2; rw [List.append_assoc (A1 ++ U1), List.take_append_drop]; exact this) (by have := HL.out; omega) (by have := HL.out; omega) (by have := HL.out; rw [List.length_drop]; omega) (by have := HL.out; rw [List.length_take]; omega) hsz (by have := S1.out; rw [List.append_assoc (A1 ++ U1), List.take_append_drop]; exact this)
        rw [show ((m - i : Nat) : Int) = (m : Int) - (i : Int) by omega, show ((m + j - i : Nat) : Int) = (m : Int) + (j : Int) - (i : Int) by omega] at hc
        have HC := Aside0.mk hc
        clear hc
        clear S1
        go_wp2_with (first | (go_at_call 52; refine HC.out.mono ?_; rintro e w1 ⟨rfl, S2⟩; have S2 := Aside0.mk S2))
        go_roundg (i + (j - i))
        case measure => omega
        case rel =>
          obtain ⟨l1, l2, l3, l4⟩ := HL.out
          refine ⟨i, j - i, A1, V1.drop (j - i), V1.take (j - i), U1 ++ C1, by first | rfl | go_num | (congr 1; omega), by first | rfl | go_num | (congr 1; omega), by omega, by omega, by omega, by omega, by omega, ⟨by omega, by rw [List.length_drop]; omega, by rw [List.length_take]; omega, ?_⟩, by show SW enc w0 blk off _ _; have := S2.out; simpa only [List.append_assoc] using this, ?_⟩
          · rw [← l4]; simp only [List.length_append, List.length_drop, List.length_take]; omega
          · show _ = _
            rw [← HF.out, List.append_assoc A1 (V1.take (j - i)), List.take_append_drop]
            simp only [List.append_assoc]
end Go.Proofs.YthhaikkicabplaaR.Sort
