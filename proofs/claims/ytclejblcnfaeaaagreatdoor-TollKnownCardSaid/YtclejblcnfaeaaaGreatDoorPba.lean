/- Part 27. -/
import Derived.Test.YtclejblcnfaeaaaGreatDoorPav
set_option linter.all false
section
namespace Go.Proofs.YtclejblcnfaeaaaGreatDoor.W
open Go Go.Pal Go.Conc View
open Go.Proofs.Tryz
open Go.Sort (swp PermIn scanSorted shiftDown shiftUp partialIns partialInsertionSort fixDown fixUp)
set_option maxHeartbeats 4000000
section
variable{mn:Who}{v:View}{cap:Nat}{ζ:ZT}{d:Array E}{c:Array Value}
abbrev AS5:=Nat×Nat×Array E×Array Value
theorem zkj_partial_x{p:Prop}(k:p:=by
  refine A0d tab u241 Y nB (args:=[_,_,_,_]) ?_
  have hle:=hD.le
  refine ru ?_
  refine A4i ?_
  refine ru ?_
  refine A1q (α:=AS5) (fun z=>⟨[],[(9,natV z.1),(10,natV (5-z.2.1)),(0,slV b d.size cap),(1,natV x),(2,natV y),(3,cmV ζ)],[(b,z.2.2.2,tE)]⟩)
    (fun z w=>w=v∧DBz ζ cap z.2.2.1 z.2.2.2∧z.2.2.1.size=d.size∧x<z.1∧z.1≤y∧z.2.1≤5∧partialIns (ltE ζ) x y z.2.1 z.1 z.2.2.1=partialInsertionSort (ltE ζ) d x y) (fun z=>z.2.1) (x+1,5,d,c)
    ⟨Y,rg,cntL⟩ (Le.refl _) ⟨Y,hD,Y,by simp only;omega,by simp only;omega,Nat.le_refl _,Y⟩ ?_
  rintro⟨i,s,d1,c1⟩ v ⟨rfl,hD1,hs1,hxi,hiy,hs5,hr⟩
  simp only at hD1 hs1 hxi hiy hs5 hr
  dsimp only
  refine A4i ?_
  refine ru ?_
  cases s with
  | zero=>
    rw [show decide (((5-0:Nat):Int)<5)=false from rfl]
    refine ru ?_
    refine A0f tab [(b,c1,tE)] (by exact .tmp rfl .nil) (Back.here cntL) ?_
    rw [←hr]
    exact⟨Y,d1,c1,Y,hD1,hs1,Y⟩
  | succ s=>
    rw [show decide (((5-(s+1):Nat):Int)<5)=true from decide_eq_true oM]
    rw [Go.Sort.partialIns_succ]at hr
    refine ru ?_
    refine A6q (fun τ w=>w=v∧∃(k:Nat) (d2:Array E) (c2:Array Value),τ=⟨[],[(9,natV k),(10,natV (5-(s+1))),(0,slV b d.size cap),(1,natV x),(2,natV y),(3,cmV ζ)],[(b,c2,tE)]⟩∧DBz ζ cap d2 c2∧d2.size=d.size∧x<k∧k≤y∧partialIns (ltE ζ) x y s k d2=partialInsertionSort (ltE ζ) d x y) ?hcO ?hsO
    case hsO=>
      refine ru ?_
      refine A6q (fun τ w=>w=v∧∃(k:Nat),τ=⟨[],[(9,natV k),(10,natV (5-(s+1))),(0,slV b d.size cap),(1,natV x),(2,natV y),(3,cmV ζ)],[(b,c1,tE)]⟩∧x<k∧k≤y∧k=scanSorted (ltE ζ) d1 y i) ?hc1 ?hs1
      case hs1=>
        refine ru ?_
        refine A1q (α:=Nat) (fun z=>⟨[],[(9,natV z),(10,natV (5-(s+1))),(0,slV b d.size cap),(1,natV x),(2,natV y),(3,cmV ζ)],[(b,c1,tE)]⟩) (fun z w=>w=v∧i≤z∧z≤y∧scanSorted (ltE ζ) d1 y z=scanSorted (ltE ζ) d1 y i) (fun z=>y-z) i
          ⟨Y,rg,cntL⟩ (Le.refl _) ⟨Y,Nat.le_refl _,hiy,Y⟩ ?_
        rintro z v ⟨rfl,hz1,hz2,hz3⟩
        rw [scanSorted]at hz3
        refine A4i ?_
        refine su ?_
        refine lexL A1e Y kR ?_
        refine su ?_
        refine A7d Y Y (fun h=>?_) (fun h=>?_)
        · replace h:=fa h
          refine su ?_
          refine A1m tab z Y Y Y Y oM Y Y oM ?_
          refine A1j tab Y Y Y InB.head (hD1.rdE oM) ?_
          refine su ?_
          refine A1m tab (z-1) Y Y Y Y oM Y Y oM ?_
          refine A1j tab Y Y Y InB.head (hD1.rdE oM) ?_
          refine su ?_
          refine A2w w165 Y Y Y Y Y (A1z (zat hP) (hD1.ok oM) (hD1.ok oM)) ?_
          refine su ?_
          cases hlt:ltE ζ d1[z]! d1[z-1]! with
          | true=>
            rw [show decide (cmE ζ d1[z]! d1[z-1]! < 0)=true from hlt]
            rw [if_neg (by rw [hlt];simp)]at hz3
            refine ru ?_
            exact A0b ⟨_,v,⟨Y,z,Y,oM,oM,hz3⟩,⟨Y,rg,cntL⟩,Le.refl _⟩
          | false=>
            rw [show decide (cmE ζ d1[z]! d1[z-1]! < 0)=false from hlt]
            rw [if_pos (by rw [hlt];simp;omega)]at hz3
            refine ru ?_
            exact A0b ⟨z+1,v,oM,⟨Y,rg,cntL⟩,Le.refl _,Y,oM,oM,hz3⟩
        · replace h:=fa h
          rw [if_neg (by simp;omega)]at hz3
          refine ru ?_
          exact A0b ⟨_,v,⟨Y,z,Y,oM,oM,hz3⟩,⟨Y,rg,cntL⟩,Le.refl _⟩
      rintro _ v ⟨rfl,k,rfl,hxk,hky,hk⟩
      rw [←hk]at hr
      refine A4i ?_
      refine ru ?_
      by_cases hkb:k=y
      · rw [show((k:Int)==(y:Int))=true from by simp;omega]
        rw [if_pos hkb]at hr
        refine ru ?_
        refine A0f tab [(b,c1,tE)] (by exact .tmp rfl .nil) (Back.here cntL) ?_
        rw [←hr]
        exact⟨Y,d1,c1,Y,hD1,hs1,Y⟩
      · rw [show((k:Int)==(y:Int))=false from by simp;omega]
        rw [if_neg hkb]at hr
        refine ru ?_
        refine A4i ?_
        refine ru ?_
        by_cases h50:y-x<50
        · rw [show decide ((y:Int)-(x:Int)<50)=true from decide_eq_true oM]
          rw [if_pos h50]at hr
          refine ru ?_
          refine A0f tab [(b,c1,tE)] (by exact .tmp rfl .nil) (Back.here cntL) ?_
          rw [←hr]
          exact⟨Y,d1,c1,Y,hD1,hs1,Y⟩
        · rw [show decide ((y:Int)-(x:Int)<50)=false from decide_eq_false oM]
          rw [if_neg h50]at hr
          refine ru ?_
          ((refine A1d [15,17] [0,1,2,3,4,5,6,7,8,9,10,11,12,13,14,15,16,17] A1e Y kR ?_);(repeat (refine ss ?_));(refine A0s tab (k-1) Y Y Y kR Y Y (by first|rfl|omega) Y Y oM ?_);(refine A1a tab Y Y Y kR Y ib (hD1.rdE oM) ?_);(repeat (refine ss ?_));(refine A0s tab (k) Y Y Y kR Y Y (by first|rfl|omega) Y Y oM ?_);(refine A1a tab Y Y Y kR Y ib (hD1.rdE oM) ?_);(refine A0s tab (k) Y Y Y kR Y Y (by first|rfl|omega) Y Y oM ?_);(refine S_do kR (A1c tab Y Y Y Y Y (by first|exact A1f _|rfl) (by first|exact A1v _|rfl) ib (hD1.off oM Y) sb ⟨Le.refl _,kp,?_⟩));(refine A0s tab (k-1) Y Y Y kR Y Y (by first|rfl|omega) Y Y oM ?_);(refine S_do kR (A1c tab Y Y Y Y Y (by first|exact A1f _|rfl) (by first|exact A1v _|rfl) ib ((hD1.set oM (hD1.ok oM)).off (by first|simpa using oM|(simp;omega)) Y) sb ⟨Le.refl _,kp,?_⟩));(repeat (refine ss ?_)))
          refine ru ?_
          have hD2:=hD1.swp (i:=k) (j:=k-1) oM oM
          have hs2:(swp d1 k (k-1)).size=d.size:=by rw [Go.Sort.size_swp,hs1]
          refine A6q (fun τ w=>w=v∧∃(d2:Array E) (c2:Array Value),τ=⟨[],[(9,natV k),(10,natV (5-(s+1))),(0,slV b d.size cap),(1,natV x),(2,natV y),(3,cmV ζ)],[(b,c2,tE)]⟩∧DBz ζ cap d2 c2∧d2.size=d.size∧d2=fixDown (ltE ζ) x k (swp d1 k (k-1))) ?hc2 ?hs2
          case hs2=>
            refine A4i ?_
            refine ru ?_
            by_cases h2:k-x≥2
            · rw [show decide ((k:Int)-(x:Int)≥2)=true from decide_eq_true oM]
              refine ru ?_
              refine A1q (α:=AS) (fun z=>⟨[],[(11,natV z.1),(9,natV k),(10,natV (5-(s+1))),(0,slV b d.size cap),(1,natV x),(2,natV y),(3,cmV ζ)],[(b,z.2.2,tE)]⟩)
                (fun z w=>w=v∧DBz ζ cap z.2.1 z.2.2∧z.2.1.size=d.size∧z.1<k∧shiftDown (ltE ζ) z.1 z.2.1=fixDown (ltE ζ) x k (swp d1 k (k-1))) (fun z=>z.1) (k-1,swp d1 k (k-1),A0z (A0z c1 (0+(k)*SZ) (eV d1[k-1]!).cells.toList) (0+(k-1)*SZ) (eV d1[k]!).cells.toList)
                ⟨Y,?_,cntL⟩ (Le.refl _) ⟨Y,hD2,hs2,by simp only;omega,by unfold fixDown;rw [if_pos h2]⟩ ?_
              · refine⟨?_,rg⟩
                show some (Value.int .i64 ((k:Int)-1))=some (Value.int .i64 ((k-1:Nat):Int))
                congr 2;omega
              rintro⟨j,d3,c3⟩ v ⟨rfl,hD3,hs3,hjk,hr3⟩
              simp only at hD3 hs3 hjk hr3
              dsimp only
              refine A4i ?_
              refine ru ?_
              cases j with
              | zero=>
                rw [show decide (((0:Nat):Int)≥1)=false from rfl]
                refine ru ?_
                exact A0b ⟨_,v,⟨Y,d3,c3,Y,hD3,hs3,hr3⟩,⟨Y,rg,cntL⟩,Le.refl _⟩
              | succ j=>
                rw [show decide (((j+1:Nat):Int)≥1)=true from decide_eq_true oM]
                rw [show shiftDown (ltE ζ) (j+1) d3=(if !ltE ζ d3[j+1]! d3[j]! then d3 else shiftDown (ltE ζ) j (swp d3 (j+1) j))from rfl]at hr3
                refine su ?_
                refine lexL A1e Y kR ?_
                refine su ?_
                refine A1m tab (j+1) Y Y Y Y oM Y Y oM ?_
                refine A1j tab Y Y Y InB.head (hD3.rdE oM) ?_
                refine su ?_
                refine A1m tab j Y Y Y Y oM Y Y oM ?_
                refine A1j tab Y Y Y InB.head (hD3.rdE oM) ?_
                refine su ?_
                refine A2w w165 Y Y Y Y Y (A1z (zat hP) (hD3.ok oM) (hD3.ok oM)) ?_
                refine su ?_
                cases hlt:ltE ζ d3[j+1]! d3[j]! with
                | true=>
                  rw [show decide (cmE ζ d3[j+1]! d3[j]! < 0)=true from hlt]
                  rw [if_neg (by rw [hlt];simp)]at hr3
                  refine ru ?_
                  ((refine A1d [15,17] [0,1,2,3,4,5,6,7,8,9,10,11,12,13,14,15,16,17] A1e Y kR ?_);(repeat (refine ss ?_));(refine A0s tab (j) Y Y Y kR Y Y (by first|rfl|omega) Y Y oM ?_);(refine A1a tab Y Y Y kR Y ib (hD3.rdE oM) ?_);(repeat (refine ss ?_));(refine A0s tab (j+1) Y Y Y kR Y Y (by first|rfl|omega) Y Y oM ?_);(refine A1a tab Y Y Y kR Y ib (hD3.rdE oM) ?_);(refine A0s tab (j+1) Y Y Y kR Y Y (by first|rfl|omega) Y Y oM ?_);(refine S_do kR (A1c tab Y Y Y Y Y (by first|exact A1f _|rfl) (by first|exact A1v _|rfl) ib (hD3.off oM Y) sb ⟨Le.refl _,kp,?_⟩));(refine A0s tab (j) Y Y Y kR Y Y (by first|rfl|omega) Y Y oM ?_);(refine S_do kR (A1c tab Y Y Y Y Y (by first|exact A1f _|rfl) (by first|exact A1v _|rfl) ib ((hD3.set oM (hD3.ok oM)).off (by first|simpa using oM|(simp;omega)) Y) sb ⟨Le.refl _,kp,?_⟩));(repeat (refine ss ?_)))
                  refine ru ?_
                  refine A0b ⟨(j,swp d3 (j+1) j,_),v,by simp only;omega,⟨Y,?_,cntL⟩,Le.refl _,Y,hD3.swp oM oM,by rw [Go.Sort.size_swp,hs3],by simp only;omega,hr3⟩
                  refine⟨?_,rg⟩
                  show some (Value.int .i64 (((j+1:Nat):Int)-1))=some (Value.int .i64 (j:Int))
                  congr 2;omega
                | false=>
                  rw [show decide (cmE ζ d3[j+1]! d3[j]! < 0)=false from hlt]
                  rw [if_pos (by rw [hlt];rfl)]at hr3
                  refine ru ?_
                  exact A0b ⟨_,v,⟨Y,d3,c3,Y,hD3,hs3,hr3⟩,⟨Y,rg,cntL⟩,Le.refl _⟩
            · rw [show decide ((k:Int)-(x:Int)≥2)=false from decide_eq_false oM]
              refine ru ?_
              exact A0b ⟨_,v,⟨Y,swp d1 k (k-1),A0z (A0z c1 (0+(k)*SZ) (eV d1[k-1]!).cells.toList) (0+(k-1)*SZ) (eV d1[k]!).cells.toList,Y,hD2,hs2,by unfold fixDown;rw [if_neg h2]⟩,⟨Y,rg,by(try simp only [SZ]);exact cntL⟩,Le.refl _⟩
          clear hD2 hs2
          rintro _ v ⟨rfl,d2,c2,rfl,hD2,hs2,hd2⟩
          rw [←hd2]at hr
          refine ru ?_
          by_cases h2:y-k≥2
          · rw [show decide ((y:Int)-(k:Int)≥2)=true from decide_eq_true oM]
            refine ru ?_
            refine A1q (α:=AS) (fun z=>⟨[],[(12,natV z.1),(9,natV k),(10,natV (5-(s+1))),(0,slV b d.size cap),(1,natV x),(2,natV y),(3,cmV ζ)],[(b,z.2.2,tE)]⟩)
              (fun z w=>w=v∧DBz ζ cap z.2.1 z.2.2∧z.2.1.size=d.size∧k<z.1∧shiftUp (ltE ζ) y z.1 z.2.1=fixUp (ltE ζ) y k d2) (fun z=>y-z.1) (k+1,d2,c2)
              ⟨Y,rg,cntL⟩ (Le.refl _) ⟨Y,hD2,hs2,by simp only;omega,by unfold fixUp;rw [if_pos h2]⟩ ?_
            rintro⟨j,d3,c3⟩ v ⟨rfl,hD3,hs3,hjk,hr3⟩
            simp only at hD3 hs3 hjk hr3
            dsimp only
            rw [shiftUp]at hr3
            refine A4i ?_
            refine ru ?_
            by_cases hjy:j<y
            · rw [show decide ((j:Int)<(y:Int))=true from decide_eq_true oM]
              rw [if_pos hjy]at hr3
              refine su ?_
              refine lexL A1e Y kR ?_
              refine su ?_
              refine A1m tab j Y Y Y Y oM Y Y oM ?_
              refine A1j tab Y Y Y InB.head (hD3.rdE oM) ?_
              refine su ?_
              refine A1m tab (j-1) Y Y Y Y oM Y Y oM ?_
              refine A1j tab Y Y Y InB.head (hD3.rdE oM) ?_
              refine su ?_
              refine A2w w165 Y Y Y Y Y (A1z (zat hP) (hD3.ok oM) (hD3.ok oM)) ?_
              refine su ?_
              cases hlt:ltE ζ d3[j]! d3[j-1]! with
              | true=>
                rw [show decide (cmE ζ d3[j]! d3[j-1]! < 0)=true from hlt]
                rw [if_neg (by rw [hlt];simp)]at hr3
                refine ru ?_
                ((refine A1d [15,17] [0,1,2,3,4,5,6,7,8,9,10,11,12,13,14,15,16,17] A1e Y kR ?_);(repeat (refine ss ?_));(refine A0s tab (j-1) Y Y Y kR Y Y (by first|rfl|omega) Y Y oM ?_);(refine A1a tab Y Y Y kR Y ib (hD3.rdE oM) ?_);(repeat (refine ss ?_));(refine A0s tab (j) Y Y Y kR Y Y (by first|rfl|omega) Y Y oM ?_);(refine A1a tab Y Y Y kR Y ib (hD3.rdE oM) ?_);(refine A0s tab (j) Y Y Y kR Y Y (by first|rfl|omega) Y Y oM ?_);(refine S_do kR (A1c tab Y Y Y Y Y (by first|exact A1f _|rfl) (by first|exact A1v _|rfl) ib (hD3.off oM Y) sb ⟨Le.refl _,kp,?_⟩));(refine A0s tab (j-1) Y Y Y kR Y Y (by first|rfl|omega) Y Y oM ?_);(refine S_do kR (A1c tab Y Y Y Y Y (by first|exact A1f _|rfl) (by first|exact A1v _|rfl) ib ((hD3.set oM (hD3.ok oM)).off (by first|simpa using oM|(simp;omega)) Y) sb ⟨Le.refl _,kp,?_⟩));(repeat (refine ss ?_)))
                refine ru ?_
                refine A0b ⟨(j+1,swp d3 j (j-1),_),v,by simp only;omega,⟨Y,rg,cntL⟩,Le.refl _,Y,hD3.swp oM oM,by rw [Go.Sort.size_swp,hs3],by simp only;omega,hr3⟩
              | false=>
                rw [show decide (cmE ζ d3[j]! d3[j-1]! < 0)=false from hlt]
                rw [if_pos (by rw [hlt];rfl)]at hr3
                refine ru ?_
                exact A0b ⟨_,v,⟨Y,k,d3,c3,Y,hD3,hs3,oM,oM,by rw [hr3];exact hr⟩,⟨Y,rg,cntL⟩,Le.refl _⟩
            · rw [show decide ((j:Int)<(y:Int))=false from decide_eq_false oM]
              rw [if_neg hjy]at hr3
              refine ru ?_
              exact A0b ⟨_,v,⟨Y,k,d3,c3,Y,hD3,hs3,oM,oM,by rw [hr3];exact hr⟩,⟨Y,rg,cntL⟩,Le.refl _⟩
          · rw [show decide ((y:Int)-(k:Int)≥2)=false from decide_eq_false oM]
            have e:fixUp (ltE ζ) y k d2=d2:=by unfold fixUp;rw [if_neg h2]
            rw [e]at hr
            refine ru ?_
            exact A0b ⟨_,v,⟨Y,k,d2,c2,Y,hD2,hs2,oM,oM,hr⟩,⟨Y,rg,cntL⟩,Le.refl _⟩
    rintro _ v ⟨rfl,k,d2,c2,rfl,hD2,hs2,hxk,hky,hr2⟩
    refine ru ?_
    refine A0b ⟨(k,s,d2,c2),v,by simp only;omega,⟨Y,?_,cntL⟩,Le.refl _,Y,hD2,hs2,by simp only;omega,by simp only;omega,by simp only;omega,hr2⟩
    refine⟨Y,?_,rg⟩
    show some (Value.int .i64 (((5-(s+1):Nat):Int)+1))=some (Value.int .i64 ((5-s:Nat):Int))
    congr 2;omega):p:=k
theorem partial_x{b x y:Nat}(hP:zAt ζ v)(hD:DBz ζ cap d c)(hcap:d.size<2^30)(hxy:x<y)(hy:y≤d.size) :
  CallsB prog mn 241 #[slV b d.size cap,natV x,natV y,cmV ζ] (RetB fun r β'=>r = .bool (partialInsertionSort (ltE ζ) d x y).2∧SBox ζ cap b (fun d'=>d'.size=d.size∧d'=(partialInsertionSort (ltE ζ) d x y).1) β') [(b,c,tE)] v:=zkj_partial_x
end
end Go.Proofs.YtclejblcnfaeaaaGreatDoor.W
end
