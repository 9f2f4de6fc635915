/- Part 31. -/
import Derived.Test.YtclejblcnfaeaaaGreatDoorPbd
set_option linter.all false
section
namespace Go.Proofs.YtclejblcnfaeaaaGreatDoor.S
open Go Go.Pal Go.Conc View
open Go.Proofs.YtclejblcnfaeaaaGreatDoor.W (zke_partEq_x)
open Go.Proofs.Tryz
open Go.Sort (swp PermIn SortedIn Below SWO partition partLoop partitionEqual partEqLoop)
set_option maxHeartbeats 4000000
section
variable{mn:Who}{v:View}{cap:Nat}{ζ:ZT}{d:Array E}{c:Array Value}
abbrev AS2:=Nat×Nat×Array E×Array Value
theorem partEq_x{b x y p:Nat}(hP:zAt ζ v)(hD:DBz ζ cap d c)(hcap:d.size<2^30)(hxp:x≤p)(hpy:p<y)(hy:y≤d.size) :
  CallsB prog mn 183 #[slV b d.size cap,.int .i64 x,.int .i64 y,.int .i64 p,cmV ζ] (RetB fun r β'=>r=natV (partitionEqual (ltE ζ) d x y p).1∧SBox ζ cap b (fun d'=>d'.size=d.size∧d'=(partitionEqual (ltE ζ) d x y p).2) β') [(b,c,tE)] v:=zke_partEq_x
end
end Go.Proofs.YtclejblcnfaeaaaGreatDoor.S
end
