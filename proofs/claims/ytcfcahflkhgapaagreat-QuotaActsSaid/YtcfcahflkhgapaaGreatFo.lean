/- Where fields lie. -/
import Derived.Test.YtcfcahflkhgapaaGreatMem
namespace Go.Proofs.YtcfcahflkhgapaaGreat
set_option linter.unusedSimpArgs false
set_option linter.unusedVariables false
set_option linter.unnecessarySimpa false
set_option linter.unusedSectionVars false
open Go.RowKit
theorem fo_53_0 : fieldOff Tryz.prog 53 0 = some 0 := by kernel_rfl
theorem fo_53_1 : fieldOff Tryz.prog 53 1 = some 1 := by kernel_rfl
theorem fo_53_2 : fieldOff Tryz.prog 53 2 = some 2 := by kernel_rfl
theorem fo_53_3 : fieldOff Tryz.prog 53 3 = some 3 := by kernel_rfl
theorem fo_70_0 : fieldOff Tryz.prog 70 0 = some 0 := by kernel_rfl
theorem fo_70_1 : fieldOff Tryz.prog 70 1 = some 1 := by kernel_rfl
theorem fo_64_0 : fieldOff Tryz.prog 64 0 = some 0 := by kernel_rfl
theorem fo_67_0 : fieldOff Tryz.prog 67 0 = some 0 := by kernel_rfl
theorem fo_67_1 : fieldOff Tryz.prog 67 1 = some 1 := by kernel_rfl
theorem fo_115_0 : fieldOff Tryz.prog 115 0 = some 0 := by kernel_rfl
theorem fo_115_1 : fieldOff Tryz.prog 115 1 = some 1 := by kernel_rfl
theorem fo_101_0 : fieldOff Tryz.prog 101 0 = some 0 := by kernel_rfl
end Go.Proofs.YtcfcahflkhgapaaGreat
