-- written by fprint.sh, a program of ours over the kit's print: not by hand
import Derived.Test.YtpeiafamkajedaaDoorFCtx0
import Derived.Test.YtpeiafamkajedaaDoorFCtx1
namespace Go.Proofs.YtpeiafamkajedaaDoor.FCt
open Go.RowKit Go.Proofs.YtpeiafamkajedaaDoorW.PrintWords Go.Proofs.YtpeiafamkajedaaDoorW.PrintLast Go.Proofs.YtpeiafamkajedaaDoorW.PrintMore
attribute [local go_sem] feq_walk fne_walk flt_walk fle_walk fgt_walk fge_walk fint_walk fstore_walk run_f64bits max2_int min2_int max_two min_two max_three min_three max_four min_four   -- for this text's walks alone
set_option linter.unusedVariables false
set_option linter.unusedSimpArgs false
end Go.Proofs.YtpeiafamkajedaaDoor.FCt
