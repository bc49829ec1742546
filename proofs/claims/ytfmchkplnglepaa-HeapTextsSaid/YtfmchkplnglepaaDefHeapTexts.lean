/- Proved here: what the machine does at calls of the functions that the laws reach is what plain functions of the same names say, or a row of the given statement out of that. No conditions. Written by a program of this session over the printer of the kit. -/
import Derived.Test.YtfmchkplnglepaaUx35
import Derived.Test.YtfmchkplnglepaaOpen
namespace Go.Proofs.Ytfmchkplnglepaa.U
open Go.RowKit Go.Proofs.YtfmchkplnglepaaW.PrintWords Go.Proofs.YtfmchkplnglepaaW.PrintLast Go.Proofs.YtfmchkplnglepaaW.PrintMore
set_option linter.unusedVariables false
def tithelaw05_HeapTexts.Pure : Prop := ∀ (l0 : List (ByteArray)), l0.length ≤ maxLen → l0.length * 16 ≤ 140737488351232 → (∀ x ∈ l0, x.size ≤ maxLen) → tithelaw05_HeapTexts.f l0 = some true
end Go.Proofs.Ytfmchkplnglepaa.U
