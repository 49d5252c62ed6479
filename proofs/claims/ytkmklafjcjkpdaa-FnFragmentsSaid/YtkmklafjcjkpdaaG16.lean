/- The law on equal lists of reassemblies. -/
import Derived.Test.YtkmklafjcjkpdaaEqL
namespace Go.Proofs.Ytkmklafjcjkpdaa
open Go.RowKit
set_option linter.unusedVariables false
set_option linter.unusedSimpArgs false

theorem rea_ext {a b : Rea} (h1 : a.frm = b.frm) (h2 : a.sq = b.sq) (h3 : a.nx = b.nx) (h4 : a.st = b.st) (h5 : a.body = b.body) : a = b := by
  cases a; cases b; simp_all
end Go.Proofs.Ytkmklafjcjkpdaa
