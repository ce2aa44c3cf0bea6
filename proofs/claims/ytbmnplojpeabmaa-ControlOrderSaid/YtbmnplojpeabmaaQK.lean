-- written by a program of this session (wip/tools) out of the translation's own print and the session's texts; nothing here is trusted: Lean checks it
import Derived.Test.YtbmnplojpeabmaaQK0
import Derived.Test.YtbmnplojpeabmaaQK1
import Derived.Test.YtbmnplojpeabmaaQK2
namespace Go.Proofs.Ytbmnplojpeabmaa.QK
open Go.RowKit Go.Proofs.YtbmnplojpeabmaaW.PrintWords Go.Proofs.YtbmnplojpeabmaaW.PrintLast Go.Proofs.YtbmnplojpeabmaaW.PrintMore
attribute [local go_sem] max2_int min2_int max_two min_two max_three min_three max_four min_four   -- for this text's walks alone
set_option linter.unusedVariables false
set_option linter.unusedSimpArgs false

end Go.Proofs.Ytbmnplojpeabmaa.QK
