/- Packets. -/
import Derived.Test.YtbchcnmghcmaoaaS00A
set_option linter.unusedSimpArgs false
set_option linter.unusedVariables false
namespace Go.Hc
open Go

structure Pkt where
  num : Int
  time : Int
  size : Int
  el : Bool
  fl : Bool
  ec : Bool
deriving DecidableEq
def pktC (p : Pkt) : Array Value := #[iv p.num, iv p.time, iv p.size, .bool p.el, .bool p.fl, .bool p.ec]
def pkt0 : Pkt := ⟨0, 0, 0, false, false, false⟩
def pktE : Enc Pkt := ⟨6, pktC pkt0, pktC, fun _ => rfl, rfl, fun _ => by simp [pktC, isCell], by simp [pktC, isCell]⟩
section
variable {p : Pkt}
theorem pktC_0 : (pktC p)[0]? = some (iv p.num) := rfl
theorem pktC_1 : (pktC p)[1]? = some (iv p.time) := rfl
theorem pktC_2 : (pktC p)[2]? = some (iv p.size) := rfl
theorem pktC_3 : (pktC p)[3]? = some (.bool p.el) := rfl
theorem pktC_4 : (pktC p)[4]? = some (.bool p.fl) := rfl
theorem pktC_5 : (pktC p)[5]? = some (.bool p.ec) := rfl
theorem pktC_s : (pktC p).size = 6 := rfl
theorem pktC_g : getC (pktC p) 0 6 = some (pktC p) := rfl
end
abbrev pv (p : Pkt) : Value := .agg (pktC p)
theorem pkt0_C : (#[.int .i64 0, .int .i64 0, .int .i64 0, .bool false, .bool false, .bool false] : Array Value) = pktC pkt0 := rfl
theorem splice_pkt {p q : Pkt} : splice (pktC p) 0 (pktC q).toList = pktC q := rfl
theorem pktC_l {p : Pkt} : (pktC p).toList.length = 6 := rfl
theorem pktC_a {p : Pkt} : (pktC p).toList.all isCell = true := by simp [pktC, isCell]
end Go.Hc
