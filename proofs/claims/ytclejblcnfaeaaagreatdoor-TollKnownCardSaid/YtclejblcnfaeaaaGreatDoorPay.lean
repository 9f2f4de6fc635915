/- Part 25. -/
import Derived.Test.YtclejblcnfaeaaaGreatDoorPav
set_option linter.all false
section
namespace Go.Proofs.YtclejblcnfaeaaaGreatDoor.W
open Go Go.Pal Go.Conc View
open Go.Proofs.Tryz
open Go.Sort (swp PermIn)
set_option maxHeartbeats 4000000
section
variable{mn:Who}{v:View}{cap:Nat}{ζ:ZT}{d:Array E}{c:Array Value}
abbrev ptV(b:Nat):Value:=.pointer (some ⟨b,0,none⟩)
theorem zkg_order2_x{p:Prop}(k:p:=by
 refine A0d tab u250 Y nB (args:=[_,_,_,_,_]) ?_
 have hle:=hD.le
 refine su ?_
 refine lexL A1e Y kR ?_
 refine su ?_
 refine A1m tab y Y Y Y Y oM Y Y oM ?_
 refine A1j tab Y Y Y InB.head (hD.rdE oM) ?_
 refine su ?_
 refine A1m tab x Y Y Y Y oM Y Y oM ?_
 refine A1j tab Y Y Y InB.head (hD.rdE oM) ?_
 refine su ?_
 refine A2w w165 Y Y Y Y Y (A1z (zat hP) (hD.ok oM) (hD.ok oM)) ?_
 refine su ?_
 refine A1i Y (fun h=>?_) (fun h=>?_)
 ·refine su ?_
  refine A0f tab [(b,c,tE),(bs,#[natV (n+1)],3)] (by exact .tmp rfl (.tmp rfl .nil)) (Back.here cntL) ?_
  exact⟨y,x,Y,.inr ⟨Y,Y⟩,n+1,Nat.le_refl _,Y⟩
 ·refine su ?_
  refine A0f tab [(b,c,tE),(bs,#[natV n],3)] (by exact .tmp rfl (.tmp rfl .nil)) (Back.here cntL) ?_
  exact⟨x,y,Y,.inl ⟨Y,Y⟩,n,oM,Y⟩):p:=k
theorem B0u{b bs x y n:Nat}(hP:zAt ζ v)(hD:DBz ζ cap d c)(hcap:d.size<2^30)(hx:x<d.size)(hy:y<d.size)(hn:n<2^40) :
  CallsB prog mn 250 #[slV b d.size cap,natV x,natV y,ptV bs,cmV ζ] (RetB fun r β'=>∃p q,r = .tuple #[natV p,natV q]∧(p=x∧q=y∨p=y∧q=x)∧∃m,m≤n+1∧β'=[(b,c,tE),(bs,#[natV m],3)]) [(b,c,tE),(bs,#[natV n],3)] v:=zkg_order2_x
theorem zkg_median_x{p:Prop}(k:p:=by
 refine A0d tab u249 Y nB (args:=[_,_,_,_,_,_]) ?_
 refine su ?_
 refine Q_op fun ho=>A0o [(b,c,tE),(bs,#[natV n],3)] [] ho w250 Y Y Y Y Y cntA (B0u (zat hP) hD oM hx hy oM) (fun x β' hR=>?_)
 clear ho
 obtain⟨p1,q1,rfl,h1,m1,hm1,rfl⟩:=hR
 rw [List.append_nil]
 refine su ?_
 refine Q_op fun ho=>A0o [(b,c,tE),(bs,#[natV m1],3)] [] ho w250 Y Y Y Y Y cntA (B0u (zat hP) hD oM (x:=q1) oM hz oM) (fun x β' hR=>?_)
 clear ho
 obtain⟨p2,q2,rfl,h2,m2,hm2,rfl⟩:=hR
 rw [List.append_nil]
 refine su ?_
 refine Q_op fun ho=>A0o [(b,c,tE),(bs,#[natV m2],3)] [] ho w250 Y Y Y Y Y cntA (B0u (zat hP) hD oM (x:=p1) (y:=p2) oM oM oM) (fun x β' hR=>?_)
 clear ho
 obtain⟨p3,q3,rfl,h3,m3,hm3,rfl⟩:=hR
 rw [List.append_nil]
 refine su ?_
 refine A0f tab [(b,c,tE),(bs,#[natV m3],3)] (by exact .tmp rfl .nil) (Back.here cntL) ?_
 exact⟨⟨q3,oM,Y⟩,m3,oM,Y⟩):p:=k
theorem A7j{b bs x y z n:Nat}(hP:zAt ζ v)(hD:DBz ζ cap d c)(hcap:d.size<2^30)(hx:x<d.size)(hy:y<d.size)(hz:z<d.size)(hn:n<2^39) :
  CallsB prog mn 249 #[slV b d.size cap,natV x,natV y,natV z,ptV bs,cmV ζ] (RetB fun r β'=>(∃k,(k=x∨k=y∨k=z)∧r=natV k)∧∃m,m≤n+3∧β'=[(b,c,tE),(bs,#[natV m],3)]) [(b,c,tE),(bs,#[natV n],3)] v:=zkg_median_x
theorem zkg_medAdj_x{p:Prop}(k:p:=by
 refine A0d tab u248 Y nB (args:=[_,_,_,_]) ?_
 have hle:=hD.le
 refine su ?_
 refine Q_op fun ho=>A0o [(b,c,tE),(bs,#[natV n],3)] [] ho w249 Y Y Y Y Y cntA (by rw [show((x:Int)-1)=((x-1:Nat):Int) by omega];exact A7j (zat hP) hD oM (x:=x-1) (y:=x) (z:=x+1) oM oM oM oM) (fun x β' hR=>?_)
 clear ho
 obtain⟨⟨k,hk,rfl⟩,m,hm,rfl⟩:=hR
 rw [List.append_nil]
 refine su ?_
 refine A0f tab [(b,c,tE),(bs,#[natV m],3)] (by exact .tmp rfl .nil) (Back.here cntL) ?_
 exact⟨⟨k,oM,Y⟩,m,oM,Y⟩):p:=k
theorem A6i{b bs x n:Nat}(hP:zAt ζ v)(hD:DBz ζ cap d c)(hcap:d.size<2^30)(hx0:1≤x)(hx:x+1<d.size)(hn:n<2^39) :
  CallsB prog mn 248 #[slV b d.size cap,natV x,ptV bs,cmV ζ] (RetB fun r β'=>(∃k,(k+1=x∨k=x∨k=x+1)∧r=natV k)∧∃m,m≤n+3∧β'=[(b,c,tE),(bs,#[natV m],3)]) [(b,c,tE),(bs,#[natV n],3)] v:=zkg_medAdj_x
theorem q4{l k:Nat}(h:l<2^30)(hk:k≤3):IntKind.i64.wrap (IntKind.i64.wrap ((l:Int).tdiv 4)*(k:Int))=((l / 4*k:Nat):Int):=by
 have h1:(l:Int).tdiv 4=((l / 4:Nat):Int):=rfl
 have h2:l / 4*k≤2^30*3:=Nat.mul_le_mul oM hk
 rw [h1,A2d (x:=((l / 4:Nat):Int)) oM oM,←Int.natCast_mul,A2d oM oM]
theorem q5{l k x:Nat}(h:l<2^30)(hx:x<2^30)(hk:k≤3):IntKind.i64.wrap ((x:Int)+IntKind.i64.wrap (IntKind.i64.wrap ((l:Int).tdiv 4)*(k:Int)))=((x+l / 4*k:Nat):Int):=by
 have h2:l / 4*k≤2^30*3:=Nat.mul_le_mul oM hk
 rw [q4 h hk,←Int.natCast_add,A2d oM oM]
theorem pivot_x{b x y:Nat}(hP:zAt ζ v)(hD:DBz ζ cap d c)(hcap:d.size<2^30)(hxy:x<y)(hy:y≤d.size) :
  CallsB prog mn 239 #[slV b d.size cap,natV x,natV y,cmV ζ] (RetB fun r β'=>(∃k h,(x≤k∧k<y)∧h≤2∧r = .tuple #[natV k,natV h])∧β'=[(b,c,tE)]) [(b,c,tE)] v:=by
 refine A0d tab func239 Y nB (args:=[_,_,_,_]) ?_
 have hle:=hD.le
 obtain⟨l,hl⟩:∃l,l=y-x:=⟨_,rfl⟩
 refine qu fun bx=>?_
 rw [show((y:Int)-(x:Int))=(l:Int) by omega]
 rw [show IntKind.i64.wrap ((x:Int)+IntKind.i64.wrap (IntKind.i64.wrap ((l:Int).tdiv 4)*1))=((x+l / 4*1:Nat):Int)from q5 (k:=1) oM oM oM]
 rw [show IntKind.i64.wrap ((x:Int)+IntKind.i64.wrap (IntKind.i64.wrap ((l:Int).tdiv 4)*2))=((x+l / 4*2:Nat):Int)from q5 (k:=2) oM oM oM]
 rw [show IntKind.i64.wrap ((x:Int)+IntKind.i64.wrap (IntKind.i64.wrap ((l:Int).tdiv 4)*3))=((x+l / 4*3:Nat):Int)from q5 (k:=3) oM oM oM]
 refine A6q (fun τ w=>w=v∧∃(k m:Nat),τ=⟨[],[(13,natV k),(11,ptV bx)],[(b,c,tE),(bx,#[natV m],3)]⟩∧x≤k∧k<y) ?hc ?hs
 case hs=>
  refine A4i ?_
  refine ru ?_
  by_cases h8:l≥8
  ·rw [show decide ((l:Int)≥8)=true from decide_eq_true oM]
   refine cs ?_
   by_cases h50:l≥50
   ·rw [show decide ((l:Int)≥50)=true from decide_eq_true oM]
    refine cs ?_
    refine Q_op fun ho=>A0o [(b,c,tE),(bx,#[natV 0],3)] [] ho bod248 Y Y Y Y Y (show ∀p,Pal.cnt p [(bx,#[natV 0],3),(b,c,tE)]=Pal.cnt p ([(b,c,tE),(bx,#[natV 0],3)]++[])from cntA) (A6i (zat hP) hD oM (x:=x+l / 4*1) oM oM oM) (fun x β' hR=>?_)
    clear ho
    obtain⟨⟨k1,hk1,rfl⟩,m1,hm1,rfl⟩:=hR
    rw [List.append_nil]
    refine cs ?_
    refine Q_op fun ho=>A0o [(b,c,tE),(bx,#[natV m1],3)] [] ho bod248 Y Y Y Y Y cntA (A6i (zat hP) hD oM (x:=x+l / 4*2) oM oM oM) (fun x β' hR=>?_)
    clear ho
    obtain⟨⟨k2,hk2,rfl⟩,m2,hm2,rfl⟩:=hR
    rw [List.append_nil]
    refine cs ?_
    refine Q_op fun ho=>A0o [(b,c,tE),(bx,#[natV m2],3)] [] ho bod248 Y Y Y Y Y cntA (A6i (zat hP) hD oM (x:=x+l / 4*3) oM oM oM) (fun x β' hR=>?_)
    clear ho
    obtain⟨⟨k3,hk3,rfl⟩,m3,hm3,rfl⟩:=hR
    rw [List.append_nil]
    refine cs ?_
    refine Q_op fun ho=>A0o [(b,c,tE),(bx,#[natV m3],3)] [] ho bod249 Y Y Y Y Y cntA (A7j (zat hP) hD oM (x:=k1) (y:=k2) (z:=k3) oM oM oM oM) (fun x β' hR=>?_)
    clear ho
    obtain⟨⟨k4,hk4,rfl⟩,m4,hm4,rfl⟩:=hR
    rw [List.append_nil]
    refine cs ?_
    exact A0b ⟨_,v,⟨Y,k4,m4,Y,oM,oM⟩,⟨Y,rg,cntL⟩,Le.refl _⟩
   ·rw [show decide ((l:Int)≥50)=false from decide_eq_false oM]
    refine cs ?_
    refine Q_op fun ho=>A0o [(b,c,tE),(bx,#[natV 0],3)] [] ho bod249 Y Y Y Y Y (show ∀p,Pal.cnt p [(bx,#[natV 0],3),(b,c,tE)]=Pal.cnt p ([(b,c,tE),(bx,#[natV 0],3)]++[])from cntA) (A7j (zat hP) hD oM (x:=x+l / 4*1) (y:=x+l / 4*2) (z:=x+l / 4*3) oM oM oM oM) (fun x β' hR=>?_)
    clear ho
    obtain⟨⟨k4,hk4,rfl⟩,m4,hm4,rfl⟩:=hR
    rw [List.append_nil]
    refine cs ?_
    exact A0b ⟨_,v,⟨Y,k4,m4,Y,oM,oM⟩,⟨Y,rg,cntL⟩,Le.refl _⟩
  ·rw [show decide ((l:Int)≥8)=false from decide_eq_false oM]
   refine cs ?_
   exact A0b ⟨_,v,⟨Y,x+l / 4*2,0,Y,oM,oM⟩,⟨Y,rg,(show ∀p,_≤Pal.cnt p [(bx,#[natV 0],3),(b,c,tE)]from cntL)⟩,Le.refl _⟩
 rintro _ v ⟨rfl,k,m,rfl,h1,h2⟩
 refine su ?_
 refine A1i Y (fun h=>?_) (fun h=>?_)
 ·refine su ?_
  refine A0f tab [(b,c,tE)] (by exact .tmp rfl (.tmp rfl .nil)) (Back.here cntL) ?_
  exact⟨⟨k,1,⟨h1,h2⟩,oM,Y⟩,Y⟩
 ·refine su ?_
  refine A1i Y (fun h=>?_) (fun h=>?_)
  ·refine su ?_
   refine A0f tab [(b,c,tE)] (by exact .tmp rfl (.tmp rfl .nil)) (Back.here cntL) ?_
   exact⟨⟨k,2,⟨h1,h2⟩,oM,Y⟩,Y⟩
  ·refine su ?_
   refine A0f tab [(b,c,tE)] (by exact .tmp rfl (.tmp rfl .nil)) (Back.here cntL) ?_
   exact⟨⟨k,0,⟨h1,h2⟩,oM,Y⟩,Y⟩
end
end Go.Proofs.YtclejblcnfaeaaaGreatDoor.W
end
