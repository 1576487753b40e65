/- The chapter's examples (law 34's head), walked. -/
import Derived.Test.YtamabdijeklgjaaDoorExecF
namespace Go.Proofs.YtamabdijeklgjaaDoor.Ext
open Go Go.Proofs Go.RowKit Go.Proofs.YtamabdijeklgjaaDoorW.PrintWords
set_option linter.unusedVariables false
set_option linter.unusedSimpArgs false

def in0 : List FS := [⟨100, 10, 100, 0⟩, ⟨10, 10, 10, 10⟩, ⟨0, 0, 0, 0⟩, ⟨1, 1, 0, 0⟩]
theorem ra24 : runE [102, 97, 115, 116] 2 st0 4 (pixI in0) 24 = ([1, 0, 0, 0], 24, 0) := by kernel_rfl
theorem ra17 : runE [102, 97, 115, 116] 2 st0 4 (pixI in0) 17 = ([2, 0, 2, 0], 17, 0) := by kernel_rfl
theorem ra13 : runE [102, 97, 115, 116] 2 st0 4 (pixI in0) 13 = ([2, 2, 2, 2], 13, 0) := by kernel_rfl
theorem ra14 : runE [102, 97, 115, 116] 2 st0 4 (pixI in0) 14 = ([2, 0, 2, 2], 14, 0) := by kernel_rfl
theorem raF : fullE [102, 97, 115, 116] 2 st0 4 (pixI in0) = ([true, false, false, false], 0) := by kernel_rfl
theorem eq24 (k : Nat) (w : World) : (Op.equalIn (k + 2) 44 (.agg #[.int .i64 1, .int .i64 0, .int .i64 0, .int .i64 0]) (.agg #[.int .i64 1, .int .i64 0, .int .i64 0, .int .i64 0])).run Tryd.prog w = .ok true w := by kernel_rfl
theorem eq17 (k : Nat) (w : World) : (Op.equalIn (k + 2) 44 (.agg #[.int .i64 2, .int .i64 0, .int .i64 2, .int .i64 0]) (.agg #[.int .i64 2, .int .i64 0, .int .i64 2, .int .i64 0])).run Tryd.prog w = .ok true w := by kernel_rfl
theorem eq13 (k : Nat) (w : World) : (Op.equalIn (k + 2) 44 (.agg #[.int .i64 2, .int .i64 2, .int .i64 2, .int .i64 2]) (.agg #[.int .i64 2, .int .i64 2, .int .i64 2, .int .i64 2])).run Tryd.prog w = .ok true w := by kernel_rfl
theorem eq14 (k : Nat) (w : World) : (Op.equalIn (k + 2) 44 (.agg #[.int .i64 2, .int .i64 0, .int .i64 2, .int .i64 2]) (.agg #[.int .i64 2, .int .i64 0, .int .i64 2, .int .i64 2])).run Tryd.prog w = .ok true w := by kernel_rfl
theorem eqFl (k : Nat) (w : World) : (Op.equalIn (k + 2) 48 (.agg #[.bool true, .bool false, .bool false, .bool false]) (.agg #[.bool true, .bool false, .bool false, .bool false])).run Tryd.prog w = .ok true w := by kernel_rfl
end Go.Proofs.YtamabdijeklgjaaDoor.Ext
