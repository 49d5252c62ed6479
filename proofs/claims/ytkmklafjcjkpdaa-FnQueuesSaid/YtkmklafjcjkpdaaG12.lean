/- The law on valid messages. -/
import Derived.Test.YtkmklafjcjkpdaaMsg
namespace Go.Proofs.Ytkmklafjcjkpdaa
open Go.RowKit
set_option linter.unusedVariables false
set_option linter.unusedSimpArgs false
/-- A value that reads as a message. -/
def SP.msg (to cat dl : Int) (n : Nat) (l : List Int) : SP :=
  { p := fun v w => ∃ A c, v = .agg #[.int .i64 to, .int .i64 cat, .int .i64 dl, .slice A n c] ∧ RB w A c l
    st := fun v w w' hE ⟨A, c, h1, h2⟩ => ⟨A, c, h1, h2.ext hE⟩ }
end Go.Proofs.Ytkmklafjcjkpdaa
