/- Part 34. -/
import Derived.Test.YtclejblcnfaeaaaGreatDoorPbg
set_option linter.all false
section
namespace Go.Proofs.YtclejblcnfaeaaaGreatDoor.S
open Go Go.Pal Go.Conc View
open Go.Proofs.YtclejblcnfaeaaaGreatDoor.W (zki_break_x)
open Go.Proofs.Tryz
open Go.Proofs.YtclejblcnfaeaaaGreatDoor.W (wrapU wrapUr wrap8 len64_y len_x pow2_x next_x other)
open Go.Sort (swp PermIn bitsLen)
set_option maxHeartbeats 4000000
section
variable{mn:Who}{v:View}{cap:Nat}{ζ:ZT}{d:Array E}{c:Array Value}
abbrev AS4:=Nat×Int×Array E×Array Value
theorem break_x{b x y:Nat}{f:Value}(hD:DBz ζ cap d c)(hcap:d.size<2^30)(h256:y-x<8192)(hxy:x≤y)(hy:y≤d.size) :
  CallsB prog mn 179 #[slV b d.size cap,natV x,natV y,f] (RetB fun r β'=>r = .tuple #[]∧SBox ζ cap b (fun d'=>d'.size=d.size∧PermIn x y d d') β') [(b,c,tE)] v:=zki_break_x
end
end Go.Proofs.YtclejblcnfaeaaaGreatDoor.S
end
