/- Short words. -/
import Derived.OrdersIn
set_option maxHeartbeats 25600000
namespace Go.E
theorem ow {p : Prop} (h : p := by omega) : p := h
abbrev OAd := Option Addr
end Go.E
