/- Part 35. -/
import Derived.Test.YtclejblcnfaeaaaGreatDoorPbd
set_option linter.all false
section
namespace Go.Proofs.YtclejblcnfaeaaaGreatDoor.S
open Go Go.Pal Go.Conc View
open Go.Proofs.YtclejblcnfaeaaaGreatDoor.W (zkj_partial_x)
open Go.Proofs.Tryz
open Go.Sort (swp PermIn scanSorted shiftDown shiftUp partialIns partialInsertionSort fixDown fixUp)
set_option maxHeartbeats 4000000
section
variable{mn:Who}{v:View}{cap:Nat}{ζ:ZT}{d:Array E}{c:Array Value}
abbrev AS5:=Nat×Nat×Array E×Array Value
theorem partial_x{b x y:Nat}(hP:zAt ζ v)(hD:DBz ζ cap d c)(hcap:d.size<2^30)(hxy:x<y)(hy:y≤d.size) :
  CallsB prog mn 182 #[slV b d.size cap,natV x,natV y,cmV ζ] (RetB fun r β'=>r = .bool (partialInsertionSort (ltE ζ) d x y).2∧SBox ζ cap b (fun d'=>d'.size=d.size∧d'=(partialInsertionSort (ltE ζ) d x y).1) β') [(b,c,tE)] v:=zkj_partial_x
end
end Go.Proofs.YtclejblcnfaeaaaGreatDoor.S
end
