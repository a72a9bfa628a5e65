/- The lemmas for frames as functions, joined. -/
import Derived.Test.YtpdhoicpaonggaaGreatKit
import Derived.Test.YtpdhoicpaonggaaGreatM19
set_option linter.defProp false
namespace Go.Proofs.YtpdhoicpaonggaaGreat
open Go Go.M Go.RowKit
noncomputable def evf := (And.intro (And.intro (And.intro @fu_eq @fu_ne) (And.intro @argF_zero (And.intro @argF_succ @argF_nil))) (And.intro (And.intro @ofF_len @ofF_getD) (And.intro @aput_ofF (And.intro @aput_none @wi64))))
end Go.Proofs.YtpdhoicpaonggaaGreat
