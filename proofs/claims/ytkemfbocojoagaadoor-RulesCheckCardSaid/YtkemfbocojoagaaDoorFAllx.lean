-- written by fprint.sh, a program of ours over the kit's print: not by hand
import Derived.Test.YtkemfbocojoagaaDoorFAllx0
import Derived.Test.YtkemfbocojoagaaDoorFAllx1
import Derived.Test.YtkemfbocojoagaaDoorFAllx2
import Derived.Test.YtkemfbocojoagaaDoorFAllx3
import Derived.Test.YtkemfbocojoagaaDoorFAllx4
import Derived.Test.YtkemfbocojoagaaDoorFAllx5
import Derived.Test.YtkemfbocojoagaaDoorFAllx6
import Derived.Test.YtkemfbocojoagaaDoorFAllx7
import Derived.Test.YtkemfbocojoagaaDoorFAllx8
import Derived.Test.YtkemfbocojoagaaDoorFAllx9
import Derived.Test.YtkemfbocojoagaaDoorFAllx10
namespace Go.Proofs.YtkemfbocojoagaaDoor.FAll
open Go.RowKit Go.Proofs.YtkemfbocojoagaaDoorW.PrintWords Go.Proofs.YtkemfbocojoagaaDoorW.PrintLast Go.Proofs.YtkemfbocojoagaaDoorW.PrintMore
attribute [local go_sem] feq_walk fne_walk flt_walk fle_walk fgt_walk fge_walk fint_walk fstore_walk run_f64bits max2_int min2_int max_two min_two max_three min_three max_four min_four   -- for this text's walks alone
set_option linter.unusedVariables false
set_option linter.unusedSimpArgs false
end Go.Proofs.YtkemfbocojoagaaDoor.FAll
