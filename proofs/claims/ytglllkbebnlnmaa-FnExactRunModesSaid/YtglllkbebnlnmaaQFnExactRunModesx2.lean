-- Written by this session's own program for the law FnExactRunModes; it began as the print's text.
import Derived.Test.YtglllkbebnlnmaaQFnExactRunModesx61
import Derived.Test.YtglllkbebnlnmaaQFnExactRunModesx0
namespace Go.Proofs.Ytglllkbebnlnmaa.PFnExactRunModes
open Go.RowKit Go.Proofs.YtglllkbebnlnmaaW.PrintWords Go.Proofs.YtglllkbebnlnmaaW.PrintLast Go.Proofs.YtglllkbebnlnmaaW.PrintMore
attribute [local go_sem] max2_int min2_int max_two min_two max_three min_three max_four min_four   -- for this text's walks alone
set_option linter.unusedVariables false
set_option linter.unusedSimpArgs false


end Go.Proofs.Ytglllkbebnlnmaa.PFnExactRunModes
