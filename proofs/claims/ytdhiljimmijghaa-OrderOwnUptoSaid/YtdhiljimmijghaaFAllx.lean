-- written by fprint.sh, a program of ours over the kit's print: not by hand
import Derived.Test.YtdhiljimmijghaaFAllx0
import Derived.Test.YtdhiljimmijghaaFAllx1
import Derived.Test.YtdhiljimmijghaaFAllx2
namespace Go.Proofs.Ytdhiljimmijghaa.FAll
open Go.RowKit Go.Proofs.YtdhiljimmijghaaW.PrintWords Go.Proofs.YtdhiljimmijghaaW.PrintLast Go.Proofs.YtdhiljimmijghaaW.PrintMore
attribute [local go_sem] feq_walk fne_walk flt_walk fle_walk fgt_walk fge_walk fint_walk fstore_walk run_f64bits run_f64from max2_int min2_int max_two min_two max_three min_three max_four min_four   -- for this text's walks alone
set_option linter.unusedVariables false
set_option linter.unusedSimpArgs false
end Go.Proofs.Ytdhiljimmijghaa.FAll
