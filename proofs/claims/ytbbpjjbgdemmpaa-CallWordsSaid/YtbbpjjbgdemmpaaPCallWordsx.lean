-- Written by a program of this session: the printer, with contracts put in that were proved by hand. Lean checks it.
import Derived.Test.YtbbpjjbgdemmpaaPCallWordsx0
import Derived.Test.YtbbpjjbgdemmpaaPCallWordsx1
namespace Go.Proofs.Ytbbpjjbgdemmpaa.PCallWords
open Go.RowKit Go.Proofs.YtbbpjjbgdemmpaaW.PrintWords Go.Proofs.YtbbpjjbgdemmpaaW.PrintLast Go.Proofs.YtbbpjjbgdemmpaaW.PrintMore
attribute [local go_sem] max2_int min2_int max_two min_two max_three min_three max_four min_four   -- for this text's walks alone
set_option linter.unusedVariables false
set_option linter.unusedSimpArgs false

end Go.Proofs.Ytbbpjjbgdemmpaa.PCallWords
