/- Contracts and walks of the laws over small numbers and small structs (part 1). -/
import Derived.Test.YtcjppmihmfcagaaBase
import Derived.Test.YtcjppmihmfcagaaInts
namespace Go.Proofs.Ytcjppmihmfcagaa
open Go.RowKit
set_option linter.unusedVariables false
set_option linter.unusedSimpArgs false
def seqV (s : Int) : Int := if inB s 0 4095 then (s + 1) % 4096 else 0
def distV (a b : Int) : Int := if inB a 0 4095 && inB b 0 4095 then (b - a) % 4096 else -1
theorem modV_4096 (p : Int) : modV p 4096 = p % 4096 := by simp [modV, inB]
theorem distV_bd {a b : Int} (h1 : inB a 0 4095 = true) (h2 : inB b 0 4095 = true) : distV a b = (b - a) % 4096 := by simp [distV, h1, h2]
def newerV (a b : Int) : Bool := inB (distV b a) 1 2047
def sizeV (n : Int) : Int := if inB n 0 200 then 4 + 4 * ceilV n 4 else 0
theorem ceilV_4 {n : Int} (h : inB n 0 200 = true) : 0 ≤ ceilV n 4 ∧ ceilV n 4 ≤ 50 := by
  have hb := inB_true h
  simp [ceilV, inB_mk (x := n) (a := 0) (b := 1000000000000) (by omega) (by omega), inB_mk (x := 4) (a := 1) (b := 1000000000000) (by omega) (by omega)]
  omega
theorem sizeV_bd (n : Int) : 0 ≤ sizeV n ∧ sizeV n ≤ 204 := by
  by_cases h : inB n 0 200 = true
  · have := ceilV_4 h
    simp [sizeV, h]
    omega
  · have h' : inB n 0 200 = false := by simpa using h
    simp [sizeV, h']
end Go.Proofs.Ytcjppmihmfcagaa
