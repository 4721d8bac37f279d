/- Two facts that prove themselves. -/
import Derived.Calls
namespace Go.Gs
theorem oM {p : Prop} (h : p := by omega) : p := h
theorem dC {p : Prop} (h : p := by decide) : p := h
end Go.Gs
