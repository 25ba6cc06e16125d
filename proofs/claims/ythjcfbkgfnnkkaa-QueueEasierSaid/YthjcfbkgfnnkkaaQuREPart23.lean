/- Own work: texts of the proof of a law (QuLM). No condition. -/
import Derived.Test.YthjcfbkgfnnkkaaQuREPart22
namespace Go.Proofs
open Go Go.Sx
def tsTrip : TS := .struct [tsInts, tsInts, tsInts]
def zeroTrip : Value := .agg #[zeroSl, zeroSl, zeroSl]
def tsEase : TS := .struct [.int .i64, .int .i64, .int .i64]
def zeroEase : Value := .agg #[zI, zI, zI]
end Go.Proofs
