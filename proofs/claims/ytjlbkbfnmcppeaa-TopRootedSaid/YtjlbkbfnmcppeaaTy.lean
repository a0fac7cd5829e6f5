/-
  The facts of this program's types by their numbers.
-/
import Derived.Test.YtjlbkbfnmcppeaaSl
import Derived.Test.YtjlbkbfnmcppeaaProg
set_option linter.unusedSimpArgs false
set_option linter.unusedVariables false
namespace Go.Proofs.Ytjlbkbfnmcppeaa.Sl
open Go Go.RowKit
theorem ti3 : TI Try.prog 3 (.int .i64 0) 1 8 := by unfold TI; kernel_rfl
theorem ti5 : TI Try.prog 5 (.int .u8 0) 1 1 := by unfold TI; kernel_rfl
theorem ti55 : TI Try.prog 55 (.int .u64 0) 1 8 := by unfold TI; kernel_rfl
theorem ti57 : TI Try.prog 57 (.int .u32 0) 1 4 := by unfold TI; kernel_rfl
theorem ti4 : TI Try.prog 4 (.bool false) 1 1 := by unfold TI; kernel_rfl
theorem ti9 : TI Try.prog 9 (.string ⟨#[]⟩) 1 16 := by unfold TI; kernel_rfl
theorem ti26 : TI Try.prog 26 (.agg (hv zeroH)) 32 32 := by unfold TI; kernel_rfl
theorem ti22 : TI Try.prog 22 (.slice none 0 0) 1 24 := by unfold TI; kernel_rfl
theorem ti66 : TI Try.prog 66 (.agg (bv (zb 8))) 8 8 := by unfold TI; kernel_rfl
theorem ti69 : TI Try.prog 69 (.agg (bv (zb 10))) 10 10 := by unfold TI; kernel_rfl
theorem ti58 : TI Try.prog 58 (.agg (uv .u32 (List.replicate 8 0))) 8 32 := by unfold TI; kernel_rfl
theorem ti60 : TI Try.prog 60 (.agg (uv .u32 (List.replicate 64 0))) 64 256 := by unfold TI; kernel_rfl
theorem ti43 : TI Try.prog 43 (.agg #[.pointer none, .slice none 0 0]) 2 32 := by unfold TI; kernel_rfl
theorem ti41 : TI Try.prog 41 (.pointer none) 1 8 := by unfold TI; kernel_rfl
theorem ti33 : TI Try.prog 33 (.slice none 0 0) 1 24 := by unfold TI; kernel_rfl
theorem ti40 : TI Try.prog 40 (.slice none 0 0) 1 24 := by unfold TI; kernel_rfl
theorem ti35 : TI Try.prog 35 (.slice none 0 0) 1 24 := by unfold TI; kernel_rfl
theorem ti27 : TI Try.prog 27 (.int .i64 0) 1 8 := by unfold TI; kernel_rfl
theorem ng26 : Try.prog.eqGuardType Try.prog.depth 26 = false := by kernel_rfl
theorem eq_H (a b : H) (w : World) : (Op.equalIn 10000 26 (.agg (hv a)) (.agg (hv b))).run Try.prog w = .ok (decide (a = b)) w :=
  eq_H' Try.underlying26 Try.underlying5 ti26.cells ti5.cells a b w
end Go.Proofs.Ytjlbkbfnmcppeaa.Sl
