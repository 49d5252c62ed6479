/- Contracts and walks of the laws over access parameters. -/
import Derived.Test.YtcjppmihmfcagaaG2
namespace Go.Proofs.Ytcjppmihmfcagaa
open Go.RowKit
set_option linter.unusedVariables false
set_option linter.unusedSimpArgs false
def parB (a m x b : Int) : Bool := inB a 1 15 && winB m && winB x && decide (m ≤ x) && inB b 1 1000
theorem parB_false {a m x b : Int} (h : inB a 1 15 = false ∨ winB m = false ∨ winB x = false ∨ decide (m ≤ x) = false ∨ inB b 1 1000 = false) : parB a m x b = false := by
  unfold parB
  rcases h with h | h | h | h | h <;> rw [h] <;> simp
def pfV (c : Int) (a b d e z : Int) : Int := if c = 0 then a else if c = 1 then b else if c = 2 then d else if c = 3 then e else z
def pfA (c : Int) : Int := pfV c 7 3 2 2 0
def pfM (c : Int) : Int := pfV c 15 15 7 3 0
def pfX (c : Int) : Int := pfV c 1023 1023 15 7 0
def pfB (c : Int) : Int := pfV c 10 10 40 20 0
theorem pfV_out {c : Int} (h : ¬ (c = 0 ∨ c = 1 ∨ c = 2 ∨ c = 3)) (a b d e z : Int) : pfV c a b d e z = z := by
  simp only [pfV]; rw [if_neg (by omega), if_neg (by omega), if_neg (by omega), if_neg (by omega)]
end Go.Proofs.Ytcjppmihmfcagaa
