/- Short words. -/
import Derived.OrdersIn
set_option maxHeartbeats 25600000
set_option linter.all false
namespace Go.E
theorem ow {p : Prop} (h : p := by omega) : p := h
abbrev y8 := Option Addr
end Go.E
