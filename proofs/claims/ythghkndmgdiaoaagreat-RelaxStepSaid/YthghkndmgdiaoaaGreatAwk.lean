/- What is asked nothing tells 'true'. -/
import Derived.Test.YthghkndmgdiaoaaGreatTab
namespace Go.EnvOf
open Go Go.Eng
set_option maxRecDepth 100000
theorem awk24:clD EE0 (.p (.fn 24)) [] []=some (.p (.bool true),none):=by
 rw [q03d];exact ⟨400,by kernel_rfl⟩
end Go.EnvOf
