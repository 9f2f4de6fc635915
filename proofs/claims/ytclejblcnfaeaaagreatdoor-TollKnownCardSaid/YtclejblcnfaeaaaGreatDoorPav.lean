/- Part 22. -/
import Derived.Test.YtclejblcnfaeaaaGreatDoorPau
set_option linter.all false
section
namespace Go.Proofs.YtclejblcnfaeaaaGreatDoor.W
open Go Go.Pal Go.Conc View
open Go.Proofs.Tryz
open Go.Sort (swp PermIn SortedIn Below SWO siftDown heapBuild heapPop heapSort)
set_option maxHeartbeats 4000000
section
variable{mn:Who}{v:View}{cap:Nat}{ζ:ZT}{d:Array E}{c:Array Value}
theorem w2r{r:Nat}(h:r<2^40):IntKind.i64.wrap (IntKind.i64.wrap (2*(r:Int))+1)=((2*r+1:Nat):Int):=by
 rw [A2d (x:=2*(r:Int)) oM oM,A2d oM oM];omega
theorem zkd_sift_x{p:Prop}(k:p:=by
 refine A0d tab u247 Y nB (args:=[_,_,_,_,_]) ?_
 have hle:=hD.le
 refine su ?_
 refine A1q (α:=AS) (fun z=>⟨[],[(10,.int .i64 z.1),(0,slV b d.size cap),(2,.int .i64 hi),(3,.int .i64 first),(4,cmV ζ)],[(b,z.2.2,tE)]⟩)
  (fun z u=>u=v∧DBz ζ cap z.2.1 z.2.2∧z.2.1.size=d.size∧z.1<2^35∧siftDown (ltE ζ) hi first z.1 z.2.1=siftDown (ltE ζ) hi first lo d) (fun z=>hi-z.1) (lo,d,c)
  ⟨Y,rg,cntL⟩ (Le.refl _) ⟨Y,hD,Y,hlo,Y⟩ ?_
 rintro⟨root,d1,c1⟩ u ⟨rfl,hD1,hs1,hrt,hr1⟩
 simp only at hD1 hs1 hrt hr1
 dsimp only
 rw [siftDown]at hr1
 refine su ?_
 rw [w2r oM]
 by_cases hge:2*root+1≥hi
 ·rw [dif_pos hge]at hr1
  rw [show decide (((2*root+1:Nat):Int)≥(hi:Int))=true from decide_eq_true oM]
  refine su ?_
  refine A1o tab [(b,c1,tE)] .nil (Back.here cntL) ?_
  exact⟨Y,d1,c1,Y,hD1,hs1,hr1⟩
 ·rw [dif_neg hge]at hr1
  rw [show decide (((2*root+1:Nat):Int)≥(hi:Int))=false from decide_eq_false oM]
  refine su ?_
  refine lexL A1e Y kR ?_
  refine su ?_
  by_cases hlt:2*root+1+1<hi
  ·rw [show decide (((2*root+1:Nat):Int)+1<(hi:Int))=true from decide_eq_true oM]
   refine su ?_
   refine A1m tab (first+(2*root+1)) Y Y Y Y oM Y Y oM ?_
   refine A1j tab Y Y Y InB.head (hD1.rdE oM) ?_
   refine su ?_
   refine A1m tab (first+(2*root+1)+1) Y Y Y Y oM Y Y oM ?_
   refine A1j tab Y Y Y InB.head (hD1.rdE oM) ?_
   refine su ?_
   refine A2w w165 Y Y Y Y Y (A1z (zat hP) (hD1.ok oM) (hD1.ok oM)) ?_
   refine su ?_
   cases h4:ltE ζ d1[first+(2*root+1)]! d1[first+(2*root+1)+1]! with
   | true=>
    rw [show decide (cmE ζ d1[first+(2*root+1)]! d1[first+(2*root+1)+1]! < 0)=true from h4]
    rw [if_pos (by rw [h4];simp;omega)]at hr1
    refine su ?_
    refine lexL A1e Y kR ?_
    refine su ?_
    refine A1m tab (first+root) Y Y Y Y oM Y Y oM ?_
    refine A1j tab Y Y Y InB.head (hD1.rdE oM) ?_
    refine su ?_
    refine A1m tab (first+(2*root+2)) Y Y Y Y oM Y Y oM ?_
    refine A1j tab Y Y Y InB.head (hD1.rdE oM) ?_
    refine su ?_
    refine A2w w165 Y Y Y Y Y (A1z (zat hP) (hD1.ok oM) (hD1.ok oM)) ?_
    refine su ?_
    cases h5:ltE ζ d1[first+root]! d1[first+(2*root+2)]! with
    | true=>
     rw [show decide (cmE ζ d1[first+root]! d1[first+(2*root+2)]! < 0)=true from h5]
     rw [if_neg (by rw [h5];simp)]at hr1
     rw [dif_pos oM]at hr1
     refine su ?_
     ((refine A1d [21,23] [0,1,2,3,4,5,6,7,8,9,10,11,12,13,14,15,16,17,18,19,20,21,22,23] A1e Y kR ?_);(repeat (refine ss ?_));(refine A0s tab (first+(2*root+2)) Y Y Y kR Y Y (by first|rfl|omega) Y Y oM ?_);(refine A1a tab Y Y Y kR Y ib (hD1.rdE oM) ?_);(repeat (refine ss ?_));(refine A0s tab (first+root) Y Y Y kR Y Y (by first|rfl|omega) Y Y oM ?_);(refine A1a tab Y Y Y kR Y ib (hD1.rdE oM) ?_);(refine A0s tab (first+root) Y Y Y kR Y Y (by first|rfl|omega) Y Y oM ?_);(refine S_do kR (A1c tab Y Y Y Y Y (by first|exact A1f _|rfl) (by first|exact A1v _|rfl) ib (hD1.off oM Y) sb ⟨Le.refl _,kp,?_⟩));(refine A0s tab (first+(2*root+2)) Y Y Y kR Y Y (by first|rfl|omega) Y Y oM ?_);(refine S_do kR (A1c tab Y Y Y Y Y (by first|exact A1f _|rfl) (by first|exact A1v _|rfl) ib ((hD1.set oM (hD1.ok oM)).off (by first|simpa using oM|(simp;omega)) Y) sb ⟨Le.refl _,kp,?_⟩));(repeat (refine ss ?_)))
     refine su ?_
     refine A0b ⟨(2*root+2,swp d1 (first+root) (first+(2*root+2)),_),u,by simp only;omega,⟨Y,?_,cntL⟩,Le.refl _,Y,hD1.swp oM oM,by rw [Go.Sort.size_swp,hs1],by simp only;omega,hr1⟩
     refine⟨?_,rg⟩
     first|rfl|(show some (Value.int .i64 _)=some (Value.int .i64 _);congr 2;push_cast;omega)
    | false=>
     rw [show decide (cmE ζ d1[first+root]! d1[first+(2*root+2)]! < 0)=false from h5]
     rw [if_pos (by rw [h5];rfl)]at hr1
     refine su ?_
     refine A0f tab [(b,c1,tE)] .nil (Back.here cntL) ?_
     exact⟨Y,d1,c1,Y,hD1,hs1,hr1⟩
   | false=>
    rw [show decide (cmE ζ d1[first+(2*root+1)]! d1[first+(2*root+1)+1]! < 0)=false from h4]
    rw [if_neg (by rw [h4];simp)]at hr1
    refine su ?_
    refine lexL A1e Y kR ?_
    refine su ?_
    refine A1m tab (first+root) Y Y Y Y oM Y Y oM ?_
    refine A1j tab Y Y Y InB.head (hD1.rdE oM) ?_
    refine su ?_
    refine A1m tab (first+(2*root+1)) Y Y Y Y oM Y Y oM ?_
    refine A1j tab Y Y Y InB.head (hD1.rdE oM) ?_
    refine su ?_
    refine A2w w165 Y Y Y Y Y (A1z (zat hP) (hD1.ok oM) (hD1.ok oM)) ?_
    refine su ?_
    cases h5:ltE ζ d1[first+root]! d1[first+(2*root+1)]! with
    | true=>
     rw [show decide (cmE ζ d1[first+root]! d1[first+(2*root+1)]! < 0)=true from h5]
     rw [if_neg (by rw [h5];simp)]at hr1
     skip
     refine su ?_
     ((refine A1d [21,23] [0,1,2,3,4,5,6,7,8,9,10,11,12,13,14,15,16,17,18,19,20,21,22,23] A1e Y kR ?_);(repeat (refine ss ?_));(refine A0s tab (first+(2*root+1)) Y Y Y kR Y Y (by first|rfl|omega) Y Y oM ?_);(refine A1a tab Y Y Y kR Y ib (hD1.rdE oM) ?_);(repeat (refine ss ?_));(refine A0s tab (first+root) Y Y Y kR Y Y (by first|rfl|omega) Y Y oM ?_);(refine A1a tab Y Y Y kR Y ib (hD1.rdE oM) ?_);(refine A0s tab (first+root) Y Y Y kR Y Y (by first|rfl|omega) Y Y oM ?_);(refine S_do kR (A1c tab Y Y Y Y Y (by first|exact A1f _|rfl) (by first|exact A1v _|rfl) ib (hD1.off oM Y) sb ⟨Le.refl _,kp,?_⟩));(refine A0s tab (first+(2*root+1)) Y Y Y kR Y Y (by first|rfl|omega) Y Y oM ?_);(refine S_do kR (A1c tab Y Y Y Y Y (by first|exact A1f _|rfl) (by first|exact A1v _|rfl) ib ((hD1.set oM (hD1.ok oM)).off (by first|simpa using oM|(simp;omega)) Y) sb ⟨Le.refl _,kp,?_⟩));(repeat (refine ss ?_)))
     refine su ?_
     refine A0b ⟨(2*root+1,swp d1 (first+root) (first+(2*root+1)),_),u,by simp only;omega,⟨Y,?_,cntL⟩,Le.refl _,Y,hD1.swp oM oM,by rw [Go.Sort.size_swp,hs1],by simp only;omega,hr1⟩
     refine⟨?_,rg⟩
     first|rfl|(show some (Value.int .i64 _)=some (Value.int .i64 _);congr 2;push_cast;omega)
    | false=>
     rw [show decide (cmE ζ d1[first+root]! d1[first+(2*root+1)]! < 0)=false from h5]
     rw [if_pos (by rw [h5];rfl)]at hr1
     refine su ?_
     refine A0f tab [(b,c1,tE)] .nil (Back.here cntL) ?_
     exact⟨Y,d1,c1,Y,hD1,hs1,hr1⟩
  ·rw [show decide (((2*root+1:Nat):Int)+1<(hi:Int))=false from decide_eq_false oM]
   rw [if_neg (by simp;omega)]at hr1
   refine su ?_
   refine lexL A1e Y kR ?_
   refine su ?_
   refine A1m tab (first+root) Y Y Y Y oM Y Y oM ?_
   refine A1j tab Y Y Y InB.head (hD1.rdE oM) ?_
   refine su ?_
   refine A1m tab (first+(2*root+1)) Y Y Y Y oM Y Y oM ?_
   refine A1j tab Y Y Y InB.head (hD1.rdE oM) ?_
   refine su ?_
   refine A2w w165 Y Y Y Y Y (A1z (zat hP) (hD1.ok oM) (hD1.ok oM)) ?_
   refine su ?_
   cases h5:ltE ζ d1[first+root]! d1[first+(2*root+1)]! with
   | true=>
    rw [show decide (cmE ζ d1[first+root]! d1[first+(2*root+1)]! < 0)=true from h5]
    rw [if_neg (by rw [h5];simp)]at hr1
    skip
    refine su ?_
    ((refine A1d [21,23] [0,1,2,3,4,5,6,7,8,9,10,11,12,13,14,15,16,17,18,19,20,21,22,23] A1e Y kR ?_);(repeat (refine ss ?_));(refine A0s tab (first+(2*root+1)) Y Y Y kR Y Y (by first|rfl|omega) Y Y oM ?_);(refine A1a tab Y Y Y kR Y ib (hD1.rdE oM) ?_);(repeat (refine ss ?_));(refine A0s tab (first+root) Y Y Y kR Y Y (by first|rfl|omega) Y Y oM ?_);(refine A1a tab Y Y Y kR Y ib (hD1.rdE oM) ?_);(refine A0s tab (first+root) Y Y Y kR Y Y (by first|rfl|omega) Y Y oM ?_);(refine S_do kR (A1c tab Y Y Y Y Y (by first|exact A1f _|rfl) (by first|exact A1v _|rfl) ib (hD1.off oM Y) sb ⟨Le.refl _,kp,?_⟩));(refine A0s tab (first+(2*root+1)) Y Y Y kR Y Y (by first|rfl|omega) Y Y oM ?_);(refine S_do kR (A1c tab Y Y Y Y Y (by first|exact A1f _|rfl) (by first|exact A1v _|rfl) ib ((hD1.set oM (hD1.ok oM)).off (by first|simpa using oM|(simp;omega)) Y) sb ⟨Le.refl _,kp,?_⟩));(repeat (refine ss ?_)))
    refine su ?_
    refine A0b ⟨(2*root+1,swp d1 (first+root) (first+(2*root+1)),_),u,by simp only;omega,⟨Y,?_,cntL⟩,Le.refl _,Y,hD1.swp oM oM,by rw [Go.Sort.size_swp,hs1],by simp only;omega,hr1⟩
    refine⟨?_,rg⟩
    first|rfl|(show some (Value.int .i64 _)=some (Value.int .i64 _);congr 2;push_cast;omega)
   | false=>
    rw [show decide (cmE ζ d1[first+root]! d1[first+(2*root+1)]! < 0)=false from h5]
    rw [if_pos (by rw [h5];rfl)]at hr1
    refine su ?_
    refine A0f tab [(b,c1,tE)] .nil (Back.here cntL) ?_
    exact⟨Y,d1,c1,Y,hD1,hs1,hr1⟩):p:=k
theorem sift_x{b lo hi first:Nat}(hP:zAt ζ v)(hD:DBz ζ cap d c)(hcap:d.size<2^30)(h1:first+hi≤d.size)(hlo:lo<2^35) :
  CallsB prog mn 247 #[slV b d.size cap,.int .i64 lo,.int .i64 hi,.int .i64 first,cmV ζ] (RetB fun r β'=>r = .tuple #[]∧SBox ζ cap b (fun d'=>d'.size=d.size∧d'=siftDown (ltE ζ) hi first lo d) β') [(b,c,tE)] v:=zkd_sift_x
theorem half{n:Nat}(h:n<2^40):IntKind.i64.wrap (((n:Int)-1).tdiv 2)=((((n-1) / 2+1:Nat)):Int)-1:=by
 cases n with
 | zero=>rfl
 | succ n=>
  rw [show(((n+1:Nat):Int)-1)=(n:Int) by omega,show((n:Int).tdiv 2)=((n / 2:Nat):Int)from Y,A2d oM oM]
  omega
theorem zkd_heap_x{p:Prop}(k:p:=by
 refine A0d tab u237 Y nB (args:=[_,_,_,_]) ?_
 have hle:=hD.le
 refine su ?_
 rw [show((y:Int)-(x:Int))=((y-x:Nat):Int) by omega,half oM]
 refine A1q (α:=AS) (fun z=>⟨[],[(11,.int .i64 ((z.1:Int)-1)),(8,.int .i64 x),(9,.int .i64 0),(10,.int .i64 (y-x:Nat)),(0,slV b d.size cap),(3,cmV ζ)],[(b,z.2.2,tE)]⟩)
  (fun z u=>u=v∧DBz ζ cap z.2.1 z.2.2∧z.2.1.size=d.size∧z.1<2^31∧heapBuild (ltE ζ) (y-x) x z.1 z.2.1=heapBuild (ltE ζ) (y-x) x ((y-x-1) / 2+1) d) (fun z=>z.1) ((y-x-1) / 2+1,d,c)
  ⟨Y,rg,cntL⟩ (Le.refl _) ⟨Y,hD,Y,by simp only;omega,Y⟩ ?_
 rintro⟨k,d1,c1⟩ u ⟨rfl,hD1,hs1,hk,hr1⟩
 simp only at hD1 hs1 hk hr1
 dsimp only
 cases k with
 | succ k=>
  rw [show((k+1:Nat):Int)-1=(k:Int) by omega]
  refine su ?_
  rw [show decide ((k:Int)≥0)=true from decide_eq_true oM]
  refine su ?_
  refine Q_op fun ho=>A0o [(b,c1,tE)] [] ho w247 Y Y Y Y Y cntA (by rw [←hs1];exact sift_x (zat hP) hD1 oM oM oM) (fun x β' hR=>?_)
  clear ho
  obtain⟨rfl,d2,c2,rfl,hD2,hs2,hp2⟩:=hR
  rw [List.append_nil]
  refine su ?_
  refine A0b ⟨(k,d2,c2),u,by simp only;omega,⟨Y,rg,cntL⟩,Le.refl _,Y,hD2,by simp only;omega,by simp only;omega,?_⟩
  rw [←hr1,hp2];rfl
 | zero=>
  refine su ?_
  have hd1:d1=heapBuild (ltE ζ) (y-x) x ((y-x-1) / 2+1) d:=hr1
  refine A1q (α:=AS) (fun z=>⟨[],[(12,.int .i64 ((z.1:Int)-1)),(8,.int .i64 x),(9,.int .i64 0),(0,slV b d.size cap),(3,cmV ζ)],[(b,z.2.2,tE)]⟩)
   (fun z w=>w=u∧DBz ζ cap z.2.1 z.2.2∧z.2.1.size=d.size∧z.1≤y-x∧heapPop (ltE ζ) x z.1 z.2.1=heapPop (ltE ζ) x (y-x) d1) (fun z=>z.1) (y-x,d1,c1)
   ⟨Y,rg,cntL⟩ (Le.refl _) ⟨Y,hD1,hs1,Nat.le_refl _,Y⟩ ?_
  rintro⟨k,d3,c3⟩ w ⟨rfl,hD3,hs3,hk3,hr3⟩
  simp only at hD3 hs3 hk3 hr3
  dsimp only
  cases k with
  | succ k=>
   rw [show((k+1:Nat):Int)-1=(k:Int) by omega]
   refine su ?_
   rw [show decide ((k:Int)≥0)=true from decide_eq_true oM]
   refine su ?_
   ((refine A1d [17,19] [0,1,2,3,4,5,6,7,8,9,10,11,12,13,14,15,16,17,18,19] A1e Y kR ?_);(repeat (refine ss ?_));(refine A0s tab (x+k) Y Y Y kR Y Y (by first|rfl|omega) Y Y oM ?_);(refine A1a tab Y Y Y kR Y ib (hD3.rdE oM) ?_);(repeat (refine ss ?_));(refine A0s tab (x) Y Y Y kR Y Y (by first|rfl|omega) Y Y oM ?_);(refine A1a tab Y Y Y kR Y ib (hD3.rdE oM) ?_);(refine A0s tab (x) Y Y Y kR Y Y (by first|rfl|omega) Y Y oM ?_);(refine S_do kR (A1c tab Y Y Y Y Y (by first|exact A1f _|rfl) (by first|exact A1v _|rfl) ib (hD3.off oM Y) sb ⟨Le.refl _,kp,?_⟩));(refine A0s tab (x+k) Y Y Y kR Y Y (by first|rfl|omega) Y Y oM ?_);(refine S_do kR (A1c tab Y Y Y Y Y (by first|exact A1f _|rfl) (by first|exact A1v _|rfl) ib ((hD3.set oM (hD3.ok oM)).off (by first|simpa using oM|(simp;omega)) Y) sb ⟨Le.refl _,kp,?_⟩));(repeat (refine ss ?_)))
   refine su ?_
   have hD4:=hD3.swp (i:=x) (j:=x+k) oM oM
   have hs4:=Go.Sort.size_swp d3 x (x+k)
   refine Q_op fun ho=>A0o [(b,A0z (A0z c3 (0+x*SZ) (eV d3[x+k]!).cells.toList) (0+(x+k)*SZ) (eV d3[x]!).cells.toList,tE)] [] ho w247 Y Y Y Y Y cntA (by rw [←hs3,←hs4];exact sift_x (lo:=0) (zat hP) hD4 oM oM oM) (fun x β' hR=>?_)
   clear ho
   obtain⟨rfl,d5,c5,rfl,hD5,hs5,hp5⟩:=hR
   rw [List.append_nil]
   refine su ?_
   refine A0b ⟨(k,d5,c5),w,by simp only;omega,⟨Y,rg,cntL⟩,Le.refl _,Y,hD5,by simp only;omega,by simp only;omega,?_⟩
   rw [←hr3,hp5];rfl
  | zero=>
   refine su ?_
   refine A1o tab [(b,c3,tE)] .nil (Back.here cntL) ?_
   refine⟨Y,d3,c3,Y,hD3,hs3,?_⟩
   unfold heapSort
   rw [←hd1]
   exact hr3):p:=k
theorem heap_x{b x y:Nat}(hP:zAt ζ v)(hD:DBz ζ cap d c)(hcap:d.size<2^30)(hxy:x≤y)(hy:y≤d.size) :
  CallsB prog mn 237 #[slV b d.size cap,.int .i64 x,.int .i64 y,cmV ζ] (RetB fun r β'=>r = .tuple #[]∧SBox ζ cap b (fun d'=>d'.size=d.size∧d'=heapSort (ltE ζ) d x y) β') [(b,c,tE)] v:=zkd_heap_x
end
end Go.Proofs.YtclejblcnfaeaaaGreatDoor.W
end
