/-
Of the row RecordParts: printed walks and plain laws, merged (wip/claim2.py).
-/
import Derived.Test.YtkcdmoghnoodmaaQRecordParts20
namespace Go.Proofs.Ytkcdmoghnoodmaa.Pure
open Go.RowKit Go.Proofs.Ytkcdmoghnoodmaa.B

theorem RecordParts : cressetlaw03_RecordParts.Pure := Pa.RecordParts
end Go.Proofs.Ytkcdmoghnoodmaa.Pure
