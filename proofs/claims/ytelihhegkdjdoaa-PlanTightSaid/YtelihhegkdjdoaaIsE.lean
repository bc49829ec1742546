/- errors.Is at two errors that are numbers. No conditions. (226: the number of types and 100.) -/
import Derived.Test.YtelihhegkdjdoaaPx0
import Derived.WalkKit
import Derived.LaidEql
import Derived.Stop.Asserts
namespace Go.Proofs.Ytelihhegkdjdoaa.P
open Go.RowKit Go.Proofs.YtelihhegkdjdoaaW.PrintWords Go.Proofs.YtelihhegkdjdoaaW.PrintLast Go.Proofs.YtelihhegkdjdoaaW.PrintMore
open Go.Extern.Stop Go.Stop Go.Extern
theorem is_nil (b : Int) (w : World) :
    Calls Try.prog 12 #[.nilIface, .iface 37 (.int .i64 b)] w fun e w' => e = .returned (.bool false) ∧ w' = w := by
  have hn := run_eql_iface_nil_left (P := Try.prog) w 37 (.int .i64 b) Try.underlying26
  go_enter Try.func12, Try.ntmps12
  go_wp2
  go_ret
  exact ⟨rfl, rfl⟩
theorem isTypeOf (v : Value) (w : World) : (Extern.ReflectliteType.typeOf #[.iface 37 v]).run Try.prog w = .ok (.iface 58 (.agg #[.pointer (some ⟨0, 37, none⟩)])) w := by kernel_rfl
theorem isComparable (w : World) : ((Extern.ReflectliteType.method fun t => do Extern.Rtype.noPackHeld "Comparable" t; (fun a => Value.bool a.comparable) <$> typeInfo t) #[.agg #[.pointer (some ⟨0, 37, none⟩)]]).run Try.prog w = .ok (.bool true) w := by kernel_rfl
theorem noIsE (v : Value) (xT : TypeId) (w : World) : (Instr.typeAssert (.iface 37 v) xT 60 true).run Try.prog w = .ok (.tuple #[.nilIface, .bool false]) w := run_typeAssert_lacksB Try.underlying60 (by kernel_rfl) (by kernel_rfl) v xT w
theorem noUnwrapE (v : Value) (xT : TypeId) (w : World) : (Instr.typeAssert (.iface 37 v) xT 63 true).run Try.prog w = .ok (.tuple #[.nilIface, .bool false]) w := run_typeAssert_lacksB Try.underlying63 (by kernel_rfl) (by kernel_rfl) v xT w
theorem noUnwrapsE (v : Value) (xT : TypeId) (w : World) : (Instr.typeAssert (.iface 37 v) xT 65 true).run Try.prog w = .ok (.tuple #[.nilIface, .bool false]) w := run_typeAssert_lacksB Try.underlying65 (by kernel_rfl) (by kernel_rfl) v xT w
theorem isMethodComparable (v : Value) (w : World) : (Go.method 226 58 v "Comparable").run Try.prog w = .ok (67, v) w := by kernel_rfl
theorem eql_int (a b : Int) (w : World) : (binOp .eql 26 (.iface 37 (.int .i64 a)) (.iface 37 (.int .i64 b))).run Try.prog w = .ok (.bool (decide (a = b))) w := by
  have hc : (Try.prog.info? 37).map (·.comparable) = some true := by kernel_rfl
  obtain ⟨i, hi, hcmp⟩ := Option.map_eq_some_iff.1 hc
  have h : ∀ d : Nat, (Op.equalIn (d + 2) 26 (.iface 37 (.int .i64 a)) (.iface 37 (.int .i64 b))).run Try.prog w = .ok (decide (a = b)) w := fun d => by
    simp [Op.equalIn, run_underlying Try.underlying26, run_underlying Try.underlying37, typeInfo, hi, hcmp]
    by_cases e : a = b <;> simp [e]
  simp only [binOp]
  simp [Op.equal, Op.maxDepth, h 9998]
set_option maxRecDepth 100000 in
set_option maxHeartbeats 4000000 in
theorem is_int (a b : Int) (w : World) :
    Calls Try.prog 12 #[.iface 37 (.int .i64 a), .iface 37 (.int .i64 b)] w fun e w' => e = .returned (.bool (decide (a = b))) ∧ w' = w := by
  have h8 := @run_callFunc_extern Try.prog 16 _ Extern.ReflectliteType.typeOf Try.func16 (by kernel_rfl) (by kernel_rfl) (by kernel_rfl) (by kernel_rfl)
  have h32 := @run_callFunc_extern Try.prog 67 _ (Extern.ReflectliteType.method fun t => do Extern.Rtype.noPackHeld "Comparable" t; pure (.bool (← typeInfo t).comparable)) Try.func67 (by kernel_rfl) (by kernel_rfl) (by kernel_rfl) (by kernel_rfl)
  have tT := isTypeOf
  have cT := isComparable
  have mR := isMethodComparable
  have nE := noIsE
  have uE := noUnwrapE
  have vE := noUnwrapsE
  have heq := eql_int a b w
  by_cases hab : a = b
  · subst hab
    have hd : decide (a = a) = true := decide_eq_true rfl
    rw [hd] at heq ⊢
    clear hd
    go_enter Try.func12, Try.ntmps12
    go_wp2
    refine wp_loop_rounds 1 ?_
    rw [rounds_succ]
    go_wp2
    go_ret
    exact ⟨rfl, rfl⟩
  · have hd : decide (a = b) = false := decide_eq_false hab
    rw [hd] at heq ⊢
    go_enter Try.func12, Try.ntmps12
    go_wp2
    refine wp_loop_rounds 1 ?_
    rw [rounds_succ]
    go_wp2
    go_ret
    exact ⟨rfl, rfl⟩
end Go.Proofs.Ytelihhegkdjdoaa.P
