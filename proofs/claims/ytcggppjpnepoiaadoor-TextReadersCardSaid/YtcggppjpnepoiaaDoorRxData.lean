/- The plain data of the program's package api, as Lean data, and how they lie in cells. -/
import Derived.Test.YtcggppjpnepoiaaDoorRxAny
namespace Go.Rx
open Go Go.RowKit
set_option linter.unusedVariables false
structure Resting where
  id : Int
  member : Int
  type : Int
  price : Int
  visible : Int
  hidden : Int
  peak : Int
deriving DecidableEq, Inhabited
def Resting.enc (r : Resting) : List Value := [.int .u64 r.id, .int .u32 r.member, .int .i64 r.type, .int .i64 r.price, .int .u64 r.visible, .int .u64 r.hidden, .int .u64 r.peak]
theorem Resting.enc_len (r : Resting) : r.enc.length = 7 := rfl
structure Book where
  cap : Int
  meet : Int
  buys : List Resting
  sells : List Resting
  high : Int
  seq : Int
deriving DecidableEq, Inhabited
end Go.Rx
