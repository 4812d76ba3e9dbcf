/- What is asked nothing tells 'true'. -/
import Derived.Test.YtpibjnnbploadaaGreatTab
namespace Go.EnvOf
open Go Go.Eng
set_option maxRecDepth 100000
theorem awk34:clD EE0 (.p (.fn 34)) [] []=some (.p (.bool true),none):=by
 rw [q039];exact ⟨400,by kernel_rfl⟩
end Go.EnvOf
