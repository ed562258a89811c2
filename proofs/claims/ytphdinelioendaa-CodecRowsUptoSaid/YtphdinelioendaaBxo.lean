-- Written by a program of this session (wip/print2) out of Lean's print of the translation. Not trusted: Lean checks it.
import Derived.Test.YtphdinelioendaaOpn
import Derived.Test.YtphdinelioendaaBx0
namespace Go.Proofs.Ytphdinelioendaa.B
open Go.Proofs.Ytphdinelioendaa.Opn Go.Proofs.YtphdinelioendaaW.PrintWords
end Go.Proofs.Ytphdinelioendaa.B
