/- Own work: texts of the proof of a law (ArmL). No condition. -/
import Derived.Test.YtghddmaihcjmlaaPart15
import Derived.Test.YtghddmaihcjmlaaRows
import Derived.WalkKit
import Derived.ProofKit
import Derived.JoinedCond
namespace Go.Proofs
open Go Go.Sx Go.Proofs.Ytghddmaihcjmlaa

theorem ownKnob_none : ownKnob Try.prog.godebug = none := by kernel_rfl
theorem under4 : Try.prog.underlying 4 = some .bool := by kernel_rfl

def tsArm : TS := .struct [.int .i64, .int .i64, .int .i64, .int .i64, .int .i64, .int .i64]
def tsSpot : TS := .struct [.int .i64, .int .i64]
def tsEase : TS := .struct [.int .i64, .int .i64, .int .i64, .int .i64]
def tsSeek : TS := .struct [.int .i64, .struct [.int .i64, .int .i64], .slice (.int .i64)]
def zeroArm : Value := .agg #[.int .i64 0, .int .i64 0, .int .i64 0, .int .i64 0, .int .i64 0, .int .i64 0]
def zeroSpot : Value := .agg #[.int .i64 0, .int .i64 0]
def zeroEase : Value := .agg #[.int .i64 0, .int .i64 0, .int .i64 0, .int .i64 0]
def zeroSeek : Value := .agg #[.int .i64 0, .int .i64 0, .int .i64 0, .slice none 0 0]
end Go.Proofs
