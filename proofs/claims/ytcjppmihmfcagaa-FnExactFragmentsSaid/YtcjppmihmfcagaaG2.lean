/- Contracts and walks of the laws over reservations and access parameters. -/
import Derived.Test.YtcjppmihmfcagaaG1
namespace Go.Proofs.Ytcjppmihmfcagaa
open Go.RowKit
set_option linter.unusedVariables false
set_option linter.unusedSimpArgs false
theorem int_field {w : World} {cs : List Value} {fs : Array Field} {t : TypeId} (ht : Try.prog.underlying t = some (.struct fs)) (h : Rd Try.prog w t cs) (i : Nat) (f : Field) (hf : fs[i]? = some f)
    (hk : Try.prog.underlying f.type = some (.int .i64)) (hc : Try.prog.cellsOf f.type = 1) : ∃ n, (cs.drop f.offset).take 1 = [.int .i64 n] ∧ (Lit.int .i64 n).wf = true := by
  have h1 := (Rd.struct ht h).2 i f hf
  rw [hc] at h1
  exact Rd.int hk h1
theorem bool_field {w : World} {cs : List Value} {fs : Array Field} {t : TypeId} (ht : Try.prog.underlying t = some (.struct fs)) (h : Rd Try.prog w t cs) (i : Nat) (f : Field) (hf : fs[i]? = some f)
    (hk : Try.prog.underlying f.type = some .bool) (hc : Try.prog.cellsOf f.type = 1) : ∃ b, (cs.drop f.offset).take 1 = [.bool b] := by
  have h1 := (Rd.struct ht h).2 i f hf
  rw [hc] at h1
  exact Rd.bool hk h1
theorem cells_int : Try.prog.cellsOf 3 = 1 := by kernel_rfl
def resB (u o b : Int) : Bool := inB u 0 1000000000000 && inB o 0 15 && inB b 0 15
def cmb (u1 u2 x y : Int) : Int := if u1 < u2 then y else x
theorem cmb_lt {u1 u2 x y : Int} (h : u1 < u2) : cmb u1 u2 x y = y := by simp [cmb, h]
theorem cmb_ge {u1 u2 x y : Int} (h : ¬ u1 < u2) : cmb u1 u2 x y = x := by simp [cmb, h]
end Go.Proofs.Ytcjppmihmfcagaa
