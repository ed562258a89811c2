/-
Of the row TxnNone: printed walks and plain laws, merged (wip/claim2.py).
-/
import Derived.Test.YtookibpiiphmgaaQTxnNone15
namespace Go.Proofs.Ytookibpiiphmgaa.Pure
open Go.RowKit Go.Proofs.Ytookibpiiphmgaa.B

theorem TxnNone : cressetlaw22_TxnNone.Pure := Tn.TxnNone
end Go.Proofs.Ytookibpiiphmgaa.Pure
