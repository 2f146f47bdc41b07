-- What some functions of the program compute: a text of this claim's own (lines first written by the kit's tool, some proved anew).
import Derived.Test.YtfinhaghgmnegaaOx0
import Derived.Test.YtfinhaghgmnegaaOx5
import Derived.Test.YtfinhaghgmnegaaMOx31
namespace Go.Proofs.Ytfinhaghgmnegaa.O
open Go.RowKit Go.Proofs.YtfinhaghgmnegaaW.PrintWords Go.Proofs.YtfinhaghgmnegaaW.PrintLast Go.Proofs.YtfinhaghgmnegaaW.PrintMore
attribute [local go_sem] max2_int min2_int max_two min_two max_three min_three max_four min_four   -- for this text's walks alone
set_option linter.unusedVariables false
set_option linter.unusedSimpArgs false

end Go.Proofs.Ytfinhaghgmnegaa.O
