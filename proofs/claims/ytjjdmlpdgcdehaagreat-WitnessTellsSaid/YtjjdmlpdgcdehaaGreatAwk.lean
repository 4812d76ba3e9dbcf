/- What is asked nothing tells 'true'. -/
import Derived.Test.YtjjdmlpdgcdehaaGreatTab
namespace Go.EnvOf
open Go Go.Eng
set_option maxRecDepth 100000
theorem awk23:clD EE0 (.p (.fn 23)) [] []=some (.p (.bool true),none):=by
 rw [q03d];exact ⟨400,by kernel_rfl⟩
end Go.EnvOf
