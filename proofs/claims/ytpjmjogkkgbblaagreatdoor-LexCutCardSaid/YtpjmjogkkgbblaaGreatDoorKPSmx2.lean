-- Printed by the kit's print.py over several roots at once (printall.sh)
import Derived.Test.YtpjmjogkkgbblaaGreatDoorKPSmx0
import Derived.Test.YtpjmjogkkgbblaaGreatDoorKPSmx1
namespace Go.Proofs.YtpjmjogkkgbblaaGreatDoor.PSm
open Go.RowKit Go.Proofs.YtpjmjogkkgbblaaGreatDoorW.PrintWords Go.Proofs.YtpjmjogkkgbblaaGreatDoorW.PrintLast Go.Proofs.YtpjmjogkkgbblaaGreatDoorW.PrintMore
attribute [local go_sem] max2_int min2_int max_two min_two max_three min_three max_four min_four   -- for this text's walks alone
set_option linter.unusedVariables false
set_option linter.unusedSimpArgs false

/-! ### heddleref01_InWord: function 79 -/

/-! ### heddleref10_word: function 42 -/

end Go.Proofs.YtpjmjogkkgbblaaGreatDoor.PSm
