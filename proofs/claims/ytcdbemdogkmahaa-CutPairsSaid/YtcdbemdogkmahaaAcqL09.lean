/- Plain law: copies; a row of one, again and again. -/
import Derived.Test.YtcdbemdogkmahaaAcqL02
namespace Go.Acq
open Go
set_option linter.unusedSimpArgs false
end Go.Acq
