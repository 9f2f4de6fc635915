/- Part 30. -/
import Derived.Test.YtclejblcnfaeaaaGreatDoorPbc
set_option linter.all false
section
namespace Go.Proofs.YtclejblcnfaeaaaGreatDoor.S
open Go Go.Pal Go.Conc View
open Go.Proofs.YtclejblcnfaeaaaGreatDoor.W (zkd_heap_x zkd_sift_x)
open Go.Proofs.Tryz
open Go.Sort (swp PermIn SortedIn Below SWO siftDown heapBuild heapPop heapSort)
set_option maxHeartbeats 4000000
section
variable{mn:Who}{v:View}{cap:Nat}{ζ:ZT}{d:Array E}{c:Array Value}
theorem w2r{r:Nat}(h:r<2^40):IntKind.i64.wrap (IntKind.i64.wrap (2*(r:Int))+1)=((2*r+1:Nat):Int):=by
 rw [A2d (x:=2*(r:Int)) oM oM,A2d oM oM];omega
theorem sift_x{b lo hi first:Nat}(hP:zAt ζ v)(hD:DBz ζ cap d c)(hcap:d.size<2^30)(h1:first+hi≤d.size)(hlo:lo<2^35) :
  CallsB prog mn 223 #[slV b d.size cap,.int .i64 lo,.int .i64 hi,.int .i64 first,cmV ζ] (RetB fun r β'=>r = .tuple #[]∧SBox ζ cap b (fun d'=>d'.size=d.size∧d'=siftDown (ltE ζ) hi first lo d) β') [(b,c,tE)] v:=zkd_sift_x
theorem half{n:Nat}(h:n<2^40):IntKind.i64.wrap (((n:Int)-1).tdiv 2)=((((n-1) / 2+1:Nat)):Int)-1:=by
 cases n with
 | zero=>rfl
 | succ n=>
  rw [show(((n+1:Nat):Int)-1)=(n:Int) by omega,show((n:Int).tdiv 2)=((n / 2:Nat):Int)from Y,A2d oM oM]
  omega
theorem heap_x{b x y:Nat}(hP:zAt ζ v)(hD:DBz ζ cap d c)(hcap:d.size<2^30)(hxy:x≤y)(hy:y≤d.size) :
  CallsB prog mn 178 #[slV b d.size cap,.int .i64 x,.int .i64 y,cmV ζ] (RetB fun r β'=>r = .tuple #[]∧SBox ζ cap b (fun d'=>d'.size=d.size∧d'=heapSort (ltE ζ) d x y) β') [(b,c,tE)] v:=zkd_heap_x
end
end Go.Proofs.YtclejblcnfaeaaaGreatDoor.S
end
