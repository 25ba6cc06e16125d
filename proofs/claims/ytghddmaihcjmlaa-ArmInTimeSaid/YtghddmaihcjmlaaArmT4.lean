/- Own work: a text of the proof of a law (ArmT4). -/
import Derived.Test.YtghddmaihcjmlaaArmT2
import Derived.Test.YtghddmaihcjmlaaArmT3
namespace Go.Proofs
open Go Go.Sx

theorem inTime9 (a : Arm) (t x v : Int) (ks : List Int) (hks : ks.length ≤ 9223372036854775807) : PureC Try.prog 9 false [a.v, seekV t x v ks] (· = .prop True inferInstance) := by
  by_cases hfd : a.Found (a.There t) x v
  · exact inTime9A a t x v ks hfd hks
  · exact inTime9B a t x v ks hfd hks
end Go.Proofs
