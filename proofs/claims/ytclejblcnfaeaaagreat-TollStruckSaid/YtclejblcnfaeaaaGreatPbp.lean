/- Part 42. -/
import Derived.Test.YtclejblcnfaeaaaGreatPbo
set_option linter.all false
section
namespace Go.Proofs.YtclejblcnfaeaaaGreat
open Go Go.Pal Go.Pal.To Go.Conc View
open Go.Proofs.Tryz
set_option maxHeartbeats 4000000
set_option maxRecDepth 20000
theorem putV_mo{P:Int}{a:Option Addr}{n c:Nat}:(putV (Value.agg (List.toArray [.int .i64 0,.slice none 0 0])).cells.toList 0 (moV P a n c).cells.toList).toArray=(moV P a n c).cells:=rfl
end Go.Proofs.YtclejblcnfaeaaaGreat
end
