/- Part 24. -/
import Derived.Test.YtclejblcnfaeaaaGreatDoorPav
set_option linter.all false
section
namespace Go.Proofs.YtclejblcnfaeaaaGreatDoor.W
open Go Go.Pal Go.Conc View
open Go.Proofs.Tryz
open Go.Sort (swp PermIn SortedIn Below SWO partition partLoop partitionEqual partEqLoop)
set_option maxHeartbeats 4000000
section
variable{mn:Who}{v:View}{cap:Nat}{ζ:ZT}{d:Array E}{c:Array Value}
abbrev AS3:=Nat×Nat×Array E×Array Value
theorem zkf_part_x{p:Prop}(k:p:=by
 refine A0d tab u243 Y nB (args:=[_,_,_,_,_]) ?_
 have hle:=hD.le
 refine ru ?_
 ((refine A1d [13,15] [0,1,2,3,4,5,6,7,8,9,10,11,12,13,14,15] A1e Y kR ?_);(repeat (refine ss ?_));(refine A0s tab (p) Y Y Y kR Y Y (by first|rfl|omega) Y Y oM ?_);(refine A1a tab Y Y Y kR Y ib (hD.rdE oM) ?_);(repeat (refine ss ?_));(refine A0s tab (x) Y Y Y kR Y Y (by first|rfl|omega) Y Y oM ?_);(refine A1a tab Y Y Y kR Y ib (hD.rdE oM) ?_);(refine A0s tab (x) Y Y Y kR Y Y (by first|rfl|omega) Y Y oM ?_);(refine S_do kR (A1c tab Y Y Y Y Y (by first|exact A1f _|rfl) (by first|exact A1v _|rfl) ib (hD.off oM Y) sb ⟨Le.refl _,kp,?_⟩));(refine A0s tab (p) Y Y Y kR Y Y (by first|rfl|omega) Y Y oM ?_);(refine S_do kR (A1c tab Y Y Y Y Y (by first|exact A1f _|rfl) (by first|exact A1v _|rfl) ib ((hD.set oM (hD.ok oM)).off (by first|simpa using oM|(simp;omega)) Y) sb ⟨Le.refl _,kp,?_⟩));(repeat (refine ss ?_)))
 refine ru ?_
 have hD0:=hD.swp (i:=x) (j:=p) oM oM
 have hs0:=Go.Sort.size_swp d x p
 rw [show((y:Int)-1)=((y-1:Nat):Int) by omega]
 obtain⟨d1,hd1⟩:∃d1,d1=swp d x p:=⟨_,rfl⟩
 rw [←hd1]at hD0 hs0
 obtain⟨c1,hc1⟩:∃c1,c1=A0z (A0z c (0+(x)*SZ) (eV d[p]!).cells.toList) (0+(p)*SZ) (eV d[x]!).cells.toList:=⟨_,rfl⟩
 rw [←hc1]at hD0
 refine XC_sub (τ:=⟨[],[(12,.int .i64 (x+1:Nat)),(13,.int .i64 (y-1:Nat)),(0,slV b d.size cap),(1,.int .i64 x),(4,cmV ζ)],[(b,c1,tE)]⟩) (u:=v) ?_ ⟨Y,rg,by rw [hc1];exact fun _=>Nat.le_refl _⟩ (Le.refl _)
 clear hc1
 refine A6q (fun τ w=>w=v∧∃k:Nat,τ=⟨[],[(12,.int .i64 (k:Nat)),(13,.int .i64 (y-1:Nat)),(0,slV b d.size cap),(1,.int .i64 x),(4,cmV ζ)],[(b,c1,tE)]⟩∧k=Go.Sort.scanUp (fun w=>ltE ζ w d1[x]!) d1 (y-1) (x+1)) ?hc_i1 ?hs_i1
 case hs_i1=>
  refine ru ?_
  refine A1q (α:=Nat) (fun z=>⟨[],[(12,.int .i64 (z:Nat)),(13,.int .i64 (y-1:Nat)),(0,slV b d.size cap),(1,.int .i64 x),(4,cmV ζ)],[(b,c1,tE)]⟩) (fun z w=>w=v∧x+1≤z∧z≤y-1+1∧Go.Sort.scanUp (fun w=>ltE ζ w d1[x]!) d1 (y-1) (z)=Go.Sort.scanUp (fun w=>ltE ζ w d1[x]!) d1 (y-1) (x+1)) (fun z=>y-1+1-z) (x+1) ⟨Y,rg,cntL⟩ (Le.refl _) ⟨Y,Nat.le_refl _,oM,Y⟩ ?_
  rintro z v ⟨rfl,hz1,hz2,hz3⟩
  rw [Go.Sort.scanUp]at hz3
  refine su ?_
  refine lexL A1e Y kR ?_
  refine su ?_
  refine A7d Y Y (fun h=>?_) (fun h=>?_)
  ·replace h:=fa h
   refine su ?_
   refine A1m tab (z) Y Y Y Y oM Y Y oM ?_
   refine A1j tab Y Y Y InB.head (hD0.rdE oM) ?_
   refine su ?_
   refine A1m tab (x) Y Y Y Y oM Y Y oM ?_
   refine A1j tab Y Y Y InB.head (hD0.rdE oM) ?_
   refine su ?_
   refine A2w w165 Y Y Y Y Y (A1z (zat hP) (hD0.ok oM) (hD0.ok oM)) ?_
   refine su ?_
   cases hlt:ltE ζ d1[z]! d1[x]! with
   | true=>
    rw [show decide (cmE ζ d1[z]! d1[x]! < 0)=true from hlt]
    rw [if_pos (by rw [hlt];simp;omega)]at hz3
    refine ru ?_
    exact A0b ⟨z+1,v,oM,⟨Y,rg,cntL⟩,Le.refl _,Y,oM,oM,hz3⟩
   | false=>
    rw [show decide (cmE ζ d1[z]! d1[x]! < 0)=false from hlt]
    rw [if_neg (by rw [hlt];simp)]at hz3
    refine ru ?_
    exact A0b ⟨_,v,⟨Y,z,Y,hz3⟩,⟨Y,rg,cntL⟩,Le.refl _⟩
  ·replace h:=fa h
   rw [if_neg (by simp;omega)]at hz3
   refine ru ?_
   exact A0b ⟨_,v,⟨Y,z,Y,hz3⟩,⟨Y,rg,cntL⟩,Le.refl _⟩
 rintro _ v ⟨rfl,i1,rfl,hk_i1⟩
 have hb_i1:=Go.Sort.scanUp_spec (fun w=>ltE ζ w d1[x]!) d1 (y-1) _ (x+1) Y
 rw [←hk_i1]at hb_i1
 have hc_i1:=hb_i1.1
 have hd_i1:=hb_i1.2.1 oM
 have he_i1:=hb_i1.2.2.2
 clear hb_i1
 refine ru ?_
 refine A6q (fun τ w=>w=v∧∃k:Nat,τ=⟨[],[(12,.int .i64 (i1:Nat)),(13,.int .i64 (k:Nat)),(0,slV b d.size cap),(1,.int .i64 x),(4,cmV ζ)],[(b,c1,tE)]⟩∧k=Go.Sort.scanDown (fun w=>!ltE ζ w d1[x]!) d1 (i1) (y-1)) ?hc_j1 ?hs_j1
 case hs_j1=>
  refine ru ?_
  refine A1q (α:=Nat) (fun z=>⟨[],[(12,.int .i64 (i1:Nat)),(13,.int .i64 (z:Nat)),(0,slV b d.size cap),(1,.int .i64 x),(4,cmV ζ)],[(b,c1,tE)]⟩) (fun z w=>w=v∧i1≤z+1∧z≤y-1∧Go.Sort.scanDown (fun w=>!ltE ζ w d1[x]!) d1 (i1) (z)=Go.Sort.scanDown (fun w=>!ltE ζ w d1[x]!) d1 (i1) (y-1)) (fun z=>z) (y-1) ⟨Y,rg,cntL⟩ (Le.refl _) ⟨Y,oM,Nat.le_refl _,Y⟩ ?_
  rintro z v ⟨rfl,hz1,hz2,hz3⟩
  refine su ?_
  refine lexL A1e Y kR ?_
  refine su ?_
  refine A7d Y Y (fun h=>?_) (fun h=>?_)
  ·replace h:=fa h
   obtain⟨z,rfl⟩:∃k,z=k+1:=⟨z-1,oM⟩
   rw [show Go.Sort.scanDown (fun w=>!ltE ζ w d1[x]!) d1 (i1) (z+1)=(if decide (i1≤z+1) && !ltE ζ d1[z+1]! d1[x]! then Go.Sort.scanDown (fun w=>!ltE ζ w d1[x]!) d1 (i1) (z)else z+1)from rfl]at hz3
   refine su ?_
   refine A1m tab (z+1) Y Y Y Y oM Y Y oM ?_
   refine A1j tab Y Y Y InB.head (hD0.rdE oM) ?_
   refine su ?_
   refine A1m tab (x) Y Y Y Y oM Y Y oM ?_
   refine A1j tab Y Y Y InB.head (hD0.rdE oM) ?_
   refine su ?_
   refine A2w w165 Y Y Y Y Y (A1z (zat hP) (hD0.ok oM) (hD0.ok oM)) ?_
   refine su ?_
   cases hlt:ltE ζ d1[z+1]! d1[x]! with
   | true=>
    rw [show decide (cmE ζ d1[z+1]! d1[x]! < 0)=true from hlt]
    rw [if_neg (by rw [hlt];simp)]at hz3
    refine ru ?_
    exact A0b ⟨_,v,⟨Y,z+1,Y,hz3⟩,⟨Y,rg,cntL⟩,Le.refl _⟩
   | false=>
    rw [show decide (cmE ζ d1[z+1]! d1[x]! < 0)=false from hlt]
    rw [if_pos (by rw [hlt];simp;omega)]at hz3
    refine ru ?_
    refine A0b ⟨z,v,oM,⟨Y,?_,cntL⟩,Le.refl _,Y,oM,oM,hz3⟩
    refine⟨Y,?_,rg⟩
    show some (Value.int .i64 (((z+1:Nat):Int)-1))=some (Value.int .i64 (z:Int))
    congr 2;omega
  ·replace h:=fa h
   have hz4:z=Go.Sort.scanDown (fun w=>!ltE ζ w d1[x]!) d1 (i1) (z):=by
    cases z with
    | zero=>rfl
    | succ z=>rw [show Go.Sort.scanDown (fun w=>!ltE ζ w d1[x]!) d1 (i1) (z+1)=(if decide (i1≤z+1) && !ltE ζ d1[z+1]! d1[x]! then Go.Sort.scanDown (fun w=>!ltE ζ w d1[x]!) d1 (i1) (z)else z+1)from rfl,if_neg (by simp;omega)]
   rw [hz3]at hz4
   refine ru ?_
   exact A0b ⟨_,v,⟨Y,z,Y,hz4⟩,⟨Y,rg,cntL⟩,Le.refl _⟩
 rintro _ v ⟨rfl,j1,rfl,hk_j1⟩
 have hb_j1:=Go.Sort.scanDown_spec (fun w=>!ltE ζ w d1[x]!) d1 (i1) (y-1)
 rw [←hk_j1]at hb_j1
 have hc_j1:=hb_j1.1
 have hd_j1:=hb_j1.2.1 oM
 have he_j1:=hb_j1.2.2.2
 clear hb_j1
 have hpart:partition (ltE ζ) d x y p=(if i1 > j1 then(j1,true,swp d1 j1 x)else((partLoop (ltE ζ) x (i1+1) (j1-1) (swp d1 i1 j1)).1,false,swp (partLoop (ltE ζ) x (i1+1) (j1-1) (swp d1 i1 j1)).2 (partLoop (ltE ζ) x (i1+1) (j1-1) (swp d1 i1 j1)).1 x)):=by
  unfold partition
  simp only [←hd1,←hk_i1,←hk_j1]
 refine A4i ?_
 refine ru ?_
 refine A1i Y (fun h=>?_) (fun h=>?_)
 ·replace h:=fa h
  rw [hpart,if_pos oM]
  refine ru ?_
  ((refine A1d [13,15] [0,1,2,3,4,5,6,7,8,9,10,11,12,13,14,15] A1e Y kR ?_);(repeat (refine ss ?_));(refine A0s tab (x) Y Y Y kR Y Y (by first|rfl|omega) Y Y oM ?_);(refine A1a tab Y Y Y kR Y ib (hD0.rdE oM) ?_);(repeat (refine ss ?_));(refine A0s tab (j1) Y Y Y kR Y Y (by first|rfl|omega) Y Y oM ?_);(refine A1a tab Y Y Y kR Y ib (hD0.rdE oM) ?_);(refine A0s tab (j1) Y Y Y kR Y Y (by first|rfl|omega) Y Y oM ?_);(refine S_do kR (A1c tab Y Y Y Y Y (by first|exact A1f _|rfl) (by first|exact A1v _|rfl) ib (hD0.off oM Y) sb ⟨Le.refl _,kp,?_⟩));(refine A0s tab (x) Y Y Y kR Y Y (by first|rfl|omega) Y Y oM ?_);(refine S_do kR (A1c tab Y Y Y Y Y (by first|exact A1f _|rfl) (by first|exact A1v _|rfl) ib ((hD0.set oM (hD0.ok oM)).off (by first|simpa using oM|(simp;omega)) Y) sb ⟨Le.refl _,kp,?_⟩));(repeat (refine ss ?_)))
  refine ru ?_
  refine A0f tab [(b,_,tE)] (by exact .tmp rfl (.tmp rfl .nil)) (Back.here cntL) ?_
  exact⟨Y,_,_,Y,hD0.swp oM oM,by rw [Go.Sort.size_swp,hs0],Y⟩
 ·replace h:=fa h
  rw [hpart,if_neg oM]
  clear hpart
  have hne:i1≠j1:=by
   intro e
   have e1:=he_i1 oM
   have e2:=he_j1 oM oM
   rw [e]at e1
   try simp only at e1 e2
   rw [e1]at e2
   cases e2
  refine ru ?_
  ((refine A1d [13,15] [0,1,2,3,4,5,6,7,8,9,10,11,12,13,14,15] A1e Y kR ?_);(repeat (refine ss ?_));(refine A0s tab (j1) Y Y Y kR Y Y (by first|rfl|omega) Y Y oM ?_);(refine A1a tab Y Y Y kR Y ib (hD0.rdE oM) ?_);(repeat (refine ss ?_));(refine A0s tab (i1) Y Y Y kR Y Y (by first|rfl|omega) Y Y oM ?_);(refine A1a tab Y Y Y kR Y ib (hD0.rdE oM) ?_);(refine A0s tab (i1) Y Y Y kR Y Y (by first|rfl|omega) Y Y oM ?_);(refine S_do kR (A1c tab Y Y Y Y Y (by first|exact A1f _|rfl) (by first|exact A1v _|rfl) ib (hD0.off oM Y) sb ⟨Le.refl _,kp,?_⟩));(refine A0s tab (j1) Y Y Y kR Y Y (by first|rfl|omega) Y Y oM ?_);(refine S_do kR (A1c tab Y Y Y Y Y (by first|exact A1f _|rfl) (by first|exact A1v _|rfl) ib ((hD0.set oM (hD0.ok oM)).off (by first|simpa using oM|(simp;omega)) Y) sb ⟨Le.refl _,kp,?_⟩));(repeat (refine ss ?_)))
  refine ru ?_
  have hD1:=hD0.swp (i:=i1) (j:=j1) oM oM
  have hs1:(swp d1 i1 j1).size=d.size:=by rw [Go.Sort.size_swp,hs0]
  rw [show((j1:Int)-1)=((j1-1:Nat):Int) by omega]
  refine A6q (fun τ w=>w=v∧∃(k:Nat) (d2:Array E) (c2:Array Value),τ=⟨[],[(13,.int .i64 k),(0,slV b d.size cap),(1,.int .i64 x)],[(b,c2,tE)]⟩∧DBz ζ cap d2 c2∧d2.size=d.size∧x≤k∧k<y∧(k,d2)=partLoop (ltE ζ) x (i1+1) (j1-1) (swp d1 i1 j1)) ?hcO ?hsO
  case hsO=>
   refine ru ?_
   refine A1q (α:=AS3) (fun z=>⟨[],[(12,.int .i64 z.1),(13,.int .i64 z.2.1),(0,slV b d.size cap),(1,.int .i64 x),(4,cmV ζ)],[(b,z.2.2.2,tE)]⟩)
    (fun z w=>w=v∧DBz ζ cap z.2.2.1 z.2.2.2∧z.2.2.1.size=d.size∧x<z.1∧z.1≤z.2.1+1∧z.2.1<y∧partLoop (ltE ζ) x z.1 z.2.1 z.2.2.1=partLoop (ltE ζ) x (i1+1) (j1-1) (swp d1 i1 j1)) (fun z=>z.2.1+1-z.1) (i1+1,j1-1,swp d1 i1 j1,A0z (A0z c1 (0+(i1)*SZ) (eV d1[j1]!).cells.toList) (0+(j1)*SZ) (eV d1[i1]!).cells.toList)
    ⟨Y,rg,cntL⟩ (Le.refl _) ⟨Y,hD1,hs1,by simp only;omega,by simp only;omega,by simp only;omega,Y⟩ ?_
   rintro⟨i,j,d3,c3⟩ v ⟨rfl,hD2,hs2,hxi,hij,hjy,hr⟩
   simp only at hD2 hs2 hxi hij hjy hr
   dsimp only
   rw [Go.Sort.partLoop_eq]at hr
   refine ru ?_
   refine A6q (fun τ w=>w=v∧∃k:Nat,τ=⟨[],[(12,.int .i64 (k:Nat)),(13,.int .i64 (j:Nat)),(0,slV b d.size cap),(1,.int .i64 x),(4,cmV ζ)],[(b,c3,tE)]⟩∧k=Go.Sort.scanUp (fun w=>ltE ζ w d3[x]!) d3 (j) (i)) ?hc_i2 ?hs_i2
   case hs_i2=>
    refine ru ?_
    refine A1q (α:=Nat) (fun z=>⟨[],[(12,.int .i64 (z:Nat)),(13,.int .i64 (j:Nat)),(0,slV b d.size cap),(1,.int .i64 x),(4,cmV ζ)],[(b,c3,tE)]⟩) (fun z w=>w=v∧i≤z∧z≤j+1∧Go.Sort.scanUp (fun w=>ltE ζ w d3[x]!) d3 (j) (z)=Go.Sort.scanUp (fun w=>ltE ζ w d3[x]!) d3 (j) (i)) (fun z=>j+1-z) (i) ⟨Y,rg,cntL⟩ (Le.refl _) ⟨Y,Nat.le_refl _,oM,Y⟩ ?_
    rintro z v ⟨rfl,hz1,hz2,hz3⟩
    rw [Go.Sort.scanUp]at hz3
    refine su ?_
    refine lexL A1e Y kR ?_
    refine su ?_
    refine A7d Y Y (fun h=>?_) (fun h=>?_)
    ·replace h:=fa h
     refine su ?_
     refine A1m tab (z) Y Y Y Y oM Y Y oM ?_
     refine A1j tab Y Y Y InB.head (hD2.rdE oM) ?_
     refine su ?_
     refine A1m tab (x) Y Y Y Y oM Y Y oM ?_
     refine A1j tab Y Y Y InB.head (hD2.rdE oM) ?_
     refine su ?_
     refine A2w w165 Y Y Y Y Y (A1z (zat hP) (hD2.ok oM) (hD2.ok oM)) ?_
     refine su ?_
     cases hlt:ltE ζ d3[z]! d3[x]! with
     | true=>
      rw [show decide (cmE ζ d3[z]! d3[x]! < 0)=true from hlt]
      rw [if_pos (by rw [hlt];simp;omega)]at hz3
      refine ru ?_
      exact A0b ⟨z+1,v,oM,⟨Y,rg,cntL⟩,Le.refl _,Y,oM,oM,hz3⟩
     | false=>
      rw [show decide (cmE ζ d3[z]! d3[x]! < 0)=false from hlt]
      rw [if_neg (by rw [hlt];simp)]at hz3
      refine ru ?_
      exact A0b ⟨_,v,⟨Y,z,Y,hz3⟩,⟨Y,rg,cntL⟩,Le.refl _⟩
    ·replace h:=fa h
     rw [if_neg (by simp;omega)]at hz3
     refine ru ?_
     exact A0b ⟨_,v,⟨Y,z,Y,hz3⟩,⟨Y,rg,cntL⟩,Le.refl _⟩
   rintro _ v ⟨rfl,i2,rfl,hk_i2⟩
   have hb_i2:=Go.Sort.scanUp_spec (fun w=>ltE ζ w d3[x]!) d3 (j) _ (i) Y
   rw [←hk_i2]at hb_i2
   have hc_i2:=hb_i2.1
   have hd_i2:=hb_i2.2.1 oM
   have he_i2:=hb_i2.2.2.2
   clear hb_i2
   rw [←hk_i2]at hr
   refine ru ?_
   refine A6q (fun τ w=>w=v∧∃k:Nat,τ=⟨[],[(12,.int .i64 (i2:Nat)),(13,.int .i64 (k:Nat)),(0,slV b d.size cap),(1,.int .i64 x),(4,cmV ζ)],[(b,c3,tE)]⟩∧k=Go.Sort.scanDown (fun w=>!ltE ζ w d3[x]!) d3 (i2) (j)) ?hc_j2 ?hs_j2
   case hs_j2=>
    refine ru ?_
    refine A1q (α:=Nat) (fun z=>⟨[],[(12,.int .i64 (i2:Nat)),(13,.int .i64 (z:Nat)),(0,slV b d.size cap),(1,.int .i64 x),(4,cmV ζ)],[(b,c3,tE)]⟩) (fun z w=>w=v∧i2≤z+1∧z≤j∧Go.Sort.scanDown (fun w=>!ltE ζ w d3[x]!) d3 (i2) (z)=Go.Sort.scanDown (fun w=>!ltE ζ w d3[x]!) d3 (i2) (j)) (fun z=>z) (j) ⟨Y,rg,cntL⟩ (Le.refl _) ⟨Y,oM,Nat.le_refl _,Y⟩ ?_
    rintro z v ⟨rfl,hz1,hz2,hz3⟩
    refine su ?_
    refine lexL A1e Y kR ?_
    refine su ?_
    refine A7d Y Y (fun h=>?_) (fun h=>?_)
    ·replace h:=fa h
     obtain⟨z,rfl⟩:∃k,z=k+1:=⟨z-1,oM⟩
     rw [show Go.Sort.scanDown (fun w=>!ltE ζ w d3[x]!) d3 (i2) (z+1)=(if decide (i2≤z+1) && !ltE ζ d3[z+1]! d3[x]! then Go.Sort.scanDown (fun w=>!ltE ζ w d3[x]!) d3 (i2) (z)else z+1)from rfl]at hz3
     refine su ?_
     refine A1m tab (z+1) Y Y Y Y oM Y Y oM ?_
     refine A1j tab Y Y Y InB.head (hD2.rdE oM) ?_
     refine su ?_
     refine A1m tab (x) Y Y Y Y oM Y Y oM ?_
     refine A1j tab Y Y Y InB.head (hD2.rdE oM) ?_
     refine su ?_
     refine A2w w165 Y Y Y Y Y (A1z (zat hP) (hD2.ok oM) (hD2.ok oM)) ?_
     refine su ?_
     cases hlt:ltE ζ d3[z+1]! d3[x]! with
     | true=>
      rw [show decide (cmE ζ d3[z+1]! d3[x]! < 0)=true from hlt]
      rw [if_neg (by rw [hlt];simp)]at hz3
      refine ru ?_
      exact A0b ⟨_,v,⟨Y,z+1,Y,hz3⟩,⟨Y,rg,cntL⟩,Le.refl _⟩
     | false=>
      rw [show decide (cmE ζ d3[z+1]! d3[x]! < 0)=false from hlt]
      rw [if_pos (by rw [hlt];simp;omega)]at hz3
      refine ru ?_
      refine A0b ⟨z,v,oM,⟨Y,?_,cntL⟩,Le.refl _,Y,oM,oM,hz3⟩
      refine⟨Y,?_,rg⟩
      show some (Value.int .i64 (((z+1:Nat):Int)-1))=some (Value.int .i64 (z:Int))
      congr 2;omega
    ·replace h:=fa h
     have hz4:z=Go.Sort.scanDown (fun w=>!ltE ζ w d3[x]!) d3 (i2) (z):=by
      cases z with
      | zero=>rfl
      | succ z=>rw [show Go.Sort.scanDown (fun w=>!ltE ζ w d3[x]!) d3 (i2) (z+1)=(if decide (i2≤z+1) && !ltE ζ d3[z+1]! d3[x]! then Go.Sort.scanDown (fun w=>!ltE ζ w d3[x]!) d3 (i2) (z)else z+1)from rfl,if_neg (by simp;omega)]
     rw [hz3]at hz4
     refine ru ?_
     exact A0b ⟨_,v,⟨Y,z,Y,hz4⟩,⟨Y,rg,cntL⟩,Le.refl _⟩
   rintro _ v ⟨rfl,j2,rfl,hk_j2⟩
   have hb_j2:=Go.Sort.scanDown_spec (fun w=>!ltE ζ w d3[x]!) d3 (i2) (j)
   rw [←hk_j2]at hb_j2
   have hc_j2:=hb_j2.1
   have hd_j2:=hb_j2.2.1 oM
   have he_j2:=hb_j2.2.2.2
   clear hb_j2
   rw [←hk_j2]at hr
   refine A4i ?_
   refine ru ?_
   refine A1i Y (fun h=>?_) (fun h=>?_)
   ·replace h:=fa h
    rw [if_pos oM]at hr
    refine ru ?_
    exact A0b ⟨_,v,⟨Y,j2,d3,c3,Y,hD2,hs2,oM,oM,hr⟩,⟨Y,rg,cntL⟩,Le.refl _⟩
   ·replace h:=fa h
    rw [if_neg oM]at hr
    have hne:i2≠j2:=by
     intro e
     have e1:=he_i2 oM
     have e2:=he_j2 oM oM
     rw [e]at e1
     try simp only at e1 e2
     rw [e1]at e2
     cases e2
    refine ru ?_
    ((refine A1d [13,15] [0,1,2,3,4,5,6,7,8,9,10,11,12,13,14,15] A1e Y kR ?_);(repeat (refine ss ?_));(refine A0s tab (j2) Y Y Y kR Y Y (by first|rfl|omega) Y Y oM ?_);(refine A1a tab Y Y Y kR Y ib (hD2.rdE oM) ?_);(repeat (refine ss ?_));(refine A0s tab (i2) Y Y Y kR Y Y (by first|rfl|omega) Y Y oM ?_);(refine A1a tab Y Y Y kR Y ib (hD2.rdE oM) ?_);(refine A0s tab (i2) Y Y Y kR Y Y (by first|rfl|omega) Y Y oM ?_);(refine S_do kR (A1c tab Y Y Y Y Y (by first|exact A1f _|rfl) (by first|exact A1v _|rfl) ib (hD2.off oM Y) sb ⟨Le.refl _,kp,?_⟩));(refine A0s tab (j2) Y Y Y kR Y Y (by first|rfl|omega) Y Y oM ?_);(refine S_do kR (A1c tab Y Y Y Y Y (by first|exact A1f _|rfl) (by first|exact A1v _|rfl) ib ((hD2.set oM (hD2.ok oM)).off (by first|simpa using oM|(simp;omega)) Y) sb ⟨Le.refl _,kp,?_⟩));(repeat (refine ss ?_)))
    refine ru ?_
    refine A0b ⟨(i2+1,j2-1,swp d3 i2 j2,_),v,by simp only;omega,⟨Y,?_,cntL⟩,Le.refl _,Y,hD2.swp oM oM,by rw [Go.Sort.size_swp,hs2],by simp only;omega,by simp only;omega,by simp only;omega,hr⟩
    refine⟨Y,?_,rg⟩
    show some (Value.int .i64 ((j2:Int)-1))=some (Value.int .i64 ((j2-1:Nat):Int))
    congr 2;omega
  rintro _ v ⟨rfl,k,d2,c2,rfl,hD2,hs2,hxk,hky,hr⟩
  rw [←hr]
  refine ru ?_
  ((refine A1d [13,15] [0,1,2,3,4,5,6,7,8,9,10,11,12,13,14,15] A1e Y kR ?_);(repeat (refine ss ?_));(refine A0s tab (x) Y Y Y kR Y Y (by first|rfl|omega) Y Y oM ?_);(refine A1a tab Y Y Y kR Y ib (hD2.rdE oM) ?_);(repeat (refine ss ?_));(refine A0s tab (k) Y Y Y kR Y Y (by first|rfl|omega) Y Y oM ?_);(refine A1a tab Y Y Y kR Y ib (hD2.rdE oM) ?_);(refine A0s tab (k) Y Y Y kR Y Y (by first|rfl|omega) Y Y oM ?_);(refine S_do kR (A1c tab Y Y Y Y Y (by first|exact A1f _|rfl) (by first|exact A1v _|rfl) ib (hD2.off oM Y) sb ⟨Le.refl _,kp,?_⟩));(refine A0s tab (x) Y Y Y kR Y Y (by first|rfl|omega) Y Y oM ?_);(refine S_do kR (A1c tab Y Y Y Y Y (by first|exact A1f _|rfl) (by first|exact A1v _|rfl) ib ((hD2.set oM (hD2.ok oM)).off (by first|simpa using oM|(simp;omega)) Y) sb ⟨Le.refl _,kp,?_⟩));(repeat (refine ss ?_)))
  refine ru ?_
  refine A0f tab [(b,_,tE)] (by exact .tmp rfl (.tmp rfl .nil)) (Back.here cntL) ?_
  exact⟨Y,_,_,Y,hD2.swp oM oM,by rw [Go.Sort.size_swp,hs2],Y⟩):p:=k
theorem part_x{b x y p:Nat}(hP:zAt ζ v)(hD:DBz ζ cap d c)(hcap:d.size<2^30)(hxp:x≤p)(hpy:p<y)(hy:y≤d.size) :
  CallsB prog mn 243 #[slV b d.size cap,.int .i64 x,.int .i64 y,.int .i64 p,cmV ζ] (RetB fun r β'=>r = .tuple #[natV (partition (ltE ζ) d x y p).1,.bool (partition (ltE ζ) d x y p).2.1]∧SBox ζ cap b (fun d'=>d'.size=d.size∧d'=(partition (ltE ζ) d x y p).2.2) β') [(b,c,tE)] v:=zkf_part_x
end
end Go.Proofs.YtclejblcnfaeaaaGreatDoor.W
end
