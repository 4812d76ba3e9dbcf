/- Notes, spots, pieces as arguments. -/
import Derived.Test.YtddnebpblclpfaaGreatShapes
import Derived.Test.YtddnebpblclpfaaGreatText3
set_option linter.unusedSimpArgs false
set_option linter.unusedVariables false
namespace Go.EnvOf
open Go Go.Eng
set_option maxRecDepth 100000
end Go.EnvOf
