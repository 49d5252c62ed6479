/- Frames: the size check, the copy and the comparison of the laws. -/
import Derived.Test.YtkmklafjcjkpdaaEls
namespace Go.Proofs.Ytkmklafjcjkpdaa
open Go.RowKit
set_option linter.unusedVariables false
set_option linter.unusedSimpArgs false

structure Mac where
  kd : Int
  fm : Int
  to : Int
  sq : Int
  fr : Int
  mo : Bool
  re : Bool
  du : Int
  body : List Int
def kMac : Kind Mac := { size := 9, hd := fun m v => [.int .i64 m.kd, .int .i64 m.fm, .int .i64 m.to, .int .i64 m.sq, .int .i64 m.fr, .bool m.mo, .bool m.re, .int .i64 m.du, v], bd := fun m => m.body, hlen := fun _ _ => rfl }
end Go.Proofs.Ytkmklafjcjkpdaa
