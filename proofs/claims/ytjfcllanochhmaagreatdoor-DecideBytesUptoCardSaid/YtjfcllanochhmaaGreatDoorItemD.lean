/-
  The model's == at claims and ballots.
-/
import Derived.Test.YtjfcllanochhmaaGreatDoorItemA
set_option linter.unusedVariables false
set_option linter.unusedSimpArgs false
namespace Go.Proofs.YtjfcllanochhmaaGreatDoor.Item
open Go.RowKit Grp Mem _root_.Go.Proofs.YtjfcllanochhmaaGreatDoor.Code Sha Sign

theorem dec_str (a b : ByteArray) : decide (a.toList = b.toList) = decide (a = b) := by
  rw [decide_eq_decide, str_iff]
theorem beq_str (a b : ByteArray) : (a.toList == b.toList) = decide (a = b) := by
  by_cases h : a = b
  · simp [h]
  · simp [h, str_ne h]
theorem beq_int (a b : Int) : (a == b) = decide (a = b) := by
  by_cases h : a = b <;> simp [h]
open Go.Op Go.Instr in
theorem claimEq (c d : ClaimV) (w : World) : (binOp .eql 41 (.agg (claimA c)) (.agg (claimA d))).run Tryz.prog w = .ok (.bool (c.same d)) w := by
  have u3 := Tryz.underlying9
  have a3 := Tryz.isAgg9
  have z3 := Tryz.sizeOf9
  have u4 := Tryz.underlying3
  have a4 := Tryz.isAgg3
  have z4 := Tryz.sizeOf3
  have a5 := Tryz.isAgg37
  have z5 := Tryz.sizeOf37
  have hS : Tryz.prog.underlying 41 = some (.struct (Tryz.prog.fieldsOf 41)) := by kernel_rfl
  have hp : Tryz.prog.stoodInHeld 41 = false := by kernel_rfl
  rw [run_eql_struct, show (10000 : Nat) = 9999 + 1 from rfl, run_equalIn_agg w 9999 41 _ _ hS hp]
  simp only [Program.fieldsOf, Tryz.underlying41, claimA, ClaimV.cells]
  go_simp
  simp only [str_iff]
  repeat' split
  all_goals simp [ClaimV.same, conj, *]
open Go.Op Go.Instr in
theorem ballotEq (c d : BallotV) (w : World) : (binOp .eql 43 (.agg (ballotA c)) (.agg (ballotA d))).run Tryz.prog w = .ok (.bool (c.same d)) w := by
  have u3 := Tryz.underlying9
  have a3 := Tryz.isAgg9
  have z3 := Tryz.sizeOf9
  have u4 := Tryz.underlying3
  have a4 := Tryz.isAgg3
  have z4 := Tryz.sizeOf3
  have a5 := Tryz.isAgg37
  have z5 := Tryz.sizeOf37
  have hS : Tryz.prog.underlying 43 = some (.struct (Tryz.prog.fieldsOf 43)) := by kernel_rfl
  have hp : Tryz.prog.stoodInHeld 43 = false := by kernel_rfl
  rw [run_eql_struct, show (10000 : Nat) = 9999 + 1 from rfl, run_equalIn_agg w 9999 43 _ _ hS hp]
  simp only [Program.fieldsOf, Tryz.underlying43, ballotA, BallotV.cells]
  go_simp
  simp only [str_iff]
  repeat' split
  all_goals simp [BallotV.same, conj, *]
end Go.Proofs.YtjfcllanochhmaaGreatDoor.Item
