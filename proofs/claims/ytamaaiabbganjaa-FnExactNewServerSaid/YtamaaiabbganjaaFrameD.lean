/-
  Frames and decoders as data.
  Conditions: none.
-/
import Derived.Test.YtamaaiabbganjaaBytes
open Go Go.AM Go.Proofs
namespace Go.Proofs.Ytamaaiabbganjaa
open Go.ChangeShapes Go.WideShapes Go.ChangeAt Go.RowKit
set_option linter.unusedVariables false
set_option linter.unusedSimpArgs false
set_option maxRecDepth 100000
/-- a frame -/
structure Frame where
  k : Int
  s : List UInt8
  deriving DecidableEq
def Frame.row (f : Frame) : List D := [.int .i64 f.k, .str f.s]
structure Frame.fine (f : Frame) : Prop where
  k : inR .i64 f.k
  s : f.s.length ≤ reachBytes
structure Dec where
  rest : List UInt8
  broken : Bool
def Dec.row (d : Dec) : List D := [.sl (bytesRows d.rest), .bool d.broken]
end Go.Proofs.Ytamaaiabbganjaa
