/- What is asked nothing tells 'true'. -/
import Derived.Test.YtpibjnnbploadaaGreatTab
namespace Go.EnvOf
open Go Go.Eng
set_option maxRecDepth 100000
theorem awk16:clD EE0 (.p (.fn 16)) [] []=some (.p (.bool true),none):=by
 rw [q02p];exact ⟨400,by kernel_rfl⟩
end Go.EnvOf
