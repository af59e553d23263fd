/- Where fields lie. -/
import Derived.Test.YtcfcahflkhgapaaMem
namespace Go.Proofs.Ytcfcahflkhgapaa
set_option linter.unusedSimpArgs false
set_option linter.unusedVariables false
set_option linter.unnecessarySimpa false
set_option linter.unusedSectionVars false
open Go.RowKit
theorem fo_30_0 : fieldOff Try.prog 30 0 = some 0 := by kernel_rfl
theorem fo_30_1 : fieldOff Try.prog 30 1 = some 1 := by kernel_rfl
theorem fo_30_2 : fieldOff Try.prog 30 2 = some 2 := by kernel_rfl
theorem fo_30_3 : fieldOff Try.prog 30 3 = some 3 := by kernel_rfl
theorem fo_69_0 : fieldOff Try.prog 69 0 = some 0 := by kernel_rfl
theorem fo_69_1 : fieldOff Try.prog 69 1 = some 1 := by kernel_rfl
theorem fo_62_0 : fieldOff Try.prog 62 0 = some 0 := by kernel_rfl
theorem fo_65_0 : fieldOff Try.prog 65 0 = some 0 := by kernel_rfl
theorem fo_65_1 : fieldOff Try.prog 65 1 = some 1 := by kernel_rfl
theorem fo_106_0 : fieldOff Try.prog 106 0 = some 0 := by kernel_rfl
theorem fo_106_1 : fieldOff Try.prog 106 1 = some 1 := by kernel_rfl
theorem fo_96_0 : fieldOff Try.prog 96 0 = some 0 := by kernel_rfl
end Go.Proofs.Ytcfcahflkhgapaa
