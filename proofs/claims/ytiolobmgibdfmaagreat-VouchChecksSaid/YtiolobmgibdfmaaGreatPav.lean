/- Part 22. -/
import Derived.Test.YtiolobmgibdfmaaGreatPau
set_option linter.all false
section
namespace Go.Proofs.YtiolobmgibdfmaaGreat
open Go Go.Pal Go.Pal.Vo Go.Conc View
open Go.Proofs.Tryz
open Go.Sort (swp PermIn SortedIn Below SWO partition partLoop partitionEqual partEqLoop)
set_option maxHeartbeats 4000000
section
variable{mn:Who}{v:View}{P cap:Nat}{d:Array Wl}{c:Array Value}
abbrev AS3:=Nat×Nat×Array Wl×Array Value
theorem part_x{b x y p:Nat}{F:Int}{wa:Option Addr}{wn wc:Nat}(hP:P<8)(hD:DB P cap d c)(hcap:d.size<2^30)(hxp:x≤p)(hpy:p<y)(hy:y≤d.size) :
  CallsB prog mn 192 #[slV b d.size cap,.int .i64 x,.int .i64 y,.int .i64 p,cmV P F wa wn wc] (RetB fun r β'=>r = .tuple #[natV (partition (ltW P) d x y p).1,.bool (partition (ltW P) d x y p).2.1]∧SBox P cap b (fun d'=>d'.size=d.size∧d'=(partition (ltW P) d x y p).2.2) β') [(b,c,102)] v:=by
 refine A0f tab func192 Z nB (args:=[_,_,_,_,_]) ?_
 have hle:=hD.le
 repeat refine sr ?_
 ((refine A2u [13,15] [0,1,2,3,4,5,6,7,8,9,10,11,12,13,14,15] A1w Z kR ?_);(repeat (refine ss ?_));(refine A0v tab (p) Z Z Z kR Z Z (by first|rfl|omega) Z Z oM ?_);(refine A1q tab Z Z Z kR Z ib (hD.read oM) ?_);(repeat (refine ss ?_));(refine A0v tab (x) Z Z Z kR Z Z (by first|rfl|omega) Z Z oM ?_);(refine A1q tab Z Z Z kR Z ib (hD.read oM) ?_);(refine A0v tab (x) Z Z Z kR Z Z (by first|rfl|omega) Z Z oM ?_);(refine S_do kR (A1j tab Z Z Z Z Z Z Z ib (hD.off oM) sb ⟨Le.refl _,kp,?_⟩));(refine A0v tab (p) Z Z Z kR Z Z (by first|rfl|omega) Z Z oM ?_);(refine S_do kR (A1j tab Z Z Z Z Z Z Z ib ((hD.set oM (hD.ok oM)).off (by first|simpa using oM|(simp;omega))) sb ⟨Le.refl _,kp,?_⟩));(repeat (refine ss ?_)))
 repeat refine sr ?_
 have hD0:=hD.swp (i:=x) (j:=p) oM oM
 have hs0:=Go.Sort.size_swp d x p
 rw [show((y:Int)-1)=((y-1:Nat):Int) by omega]
 obtain⟨d1,hd1⟩:∃d1,d1=swp d x p:=⟨_,rfl⟩
 rw [←hd1]at hD0 hs0
 obtain⟨c1,hc1⟩:∃c1,c1=A1l (A1l c (0+(x)*2) (wlV d[p]!).cells.toList) (0+(p)*2) (wlV d[x]!).cells.toList:=⟨_,rfl⟩
 rw [←hc1]at hD0
 refine XC_sub (τ:=⟨[],[(12,.int .i64 (x+1:Nat)),(13,.int .i64 (y-1:Nat)),(0,slV b d.size cap),(1,.int .i64 x),(4,cmV P F wa wn wc)],[(b,c1,102)]⟩) (u:=v) ?_ ⟨Z,rg,by rw [hc1];exact fun _=>Nat.le_refl _⟩ (Le.refl _)
 clear hc1
 refine A6f (fun τ w=>w=v∧∃k:Nat,τ=⟨[],[(12,.int .i64 (k:Nat)),(13,.int .i64 (y-1:Nat)),(0,slV b d.size cap),(1,.int .i64 x),(4,cmV P F wa wn wc)],[(b,c1,102)]⟩∧k=Go.Sort.scanUp (fun w=>ltW P w d1[x]!) d1 (y-1) (x+1)) ?hc_i1 ?hs_i1
 case hs_i1=>
  repeat refine sr ?_
  refine A1o (α:=Nat) (fun z=>⟨[],[(12,.int .i64 (z:Nat)),(13,.int .i64 (y-1:Nat)),(0,slV b d.size cap),(1,.int .i64 x),(4,cmV P F wa wn wc)],[(b,c1,102)]⟩) (fun z w=>w=v∧x+1≤z∧z≤y-1+1∧Go.Sort.scanUp (fun w=>ltW P w d1[x]!) d1 (y-1) (z)=Go.Sort.scanUp (fun w=>ltW P w d1[x]!) d1 (y-1) (x+1)) (fun z=>y-1+1-z) (x+1) ⟨Z,rg,cntL⟩ (Le.refl _) ⟨Z,Nat.le_refl _,oM,Z⟩ ?_
  rintro z v ⟨rfl,hz1,hz2,hz3⟩
  rw [Go.Sort.scanUp]at hz3
  repeat refine st ?_
  refine lexL A1w Z kR ?_
  repeat refine st ?_
  refine A8f Z Z (fun h=>?_) (fun h=>?_)
  ·replace h:=fa h
   repeat refine st ?_
   refine A2i tab (z) Z Z Z Z oM Z Z oM ?_
   refine A1y tab Z Z Z InB.head (hD0.read oM) ?_
   repeat refine st ?_
   refine A2i tab (x) Z Z Z Z oM Z Z oM ?_
   refine A1y tab Z Z Z InB.head (hD0.read oM) ?_
   repeat refine st ?_
   refine A3r A5i Z Z Z Z Z (A2s hP (hD0.ok oM) (hD0.ok oM)) ?_
   repeat refine st ?_
   cases hlt:ltW P d1[z]! d1[x]! with
   | true=>
    rw [show decide (cmpW P d1[z]! d1[x]! < 0)=true from hlt]
    rw [if_pos (by rw [hlt];simp;omega)]at hz3
    repeat refine sr ?_
    exact A0c ⟨z+1,v,oM,⟨Z,rg,cntL⟩,Le.refl _,Z,oM,oM,hz3⟩
   | false=>
    rw [show decide (cmpW P d1[z]! d1[x]! < 0)=false from hlt]
    rw [if_neg (by rw [hlt];simp)]at hz3
    repeat refine sr ?_
    exact A0c ⟨_,v,⟨Z,z,Z,hz3⟩,⟨Z,rg,cntL⟩,Le.refl _⟩
  ·replace h:=fa h
   rw [if_neg (by simp;omega)]at hz3
   repeat refine sr ?_
   exact A0c ⟨_,v,⟨Z,z,Z,hz3⟩,⟨Z,rg,cntL⟩,Le.refl _⟩
 rintro _ v ⟨rfl,i1,rfl,hk_i1⟩
 have hb_i1:=Go.Sort.scanUp_spec (fun w=>ltW P w d1[x]!) d1 (y-1) _ (x+1) Z
 rw [←hk_i1]at hb_i1
 have hc_i1:=hb_i1.1
 have hd_i1:=hb_i1.2.1 oM
 have he_i1:=hb_i1.2.2.2
 clear hb_i1
 repeat refine sr ?_
 refine A6f (fun τ w=>w=v∧∃k:Nat,τ=⟨[],[(12,.int .i64 (i1:Nat)),(13,.int .i64 (k:Nat)),(0,slV b d.size cap),(1,.int .i64 x),(4,cmV P F wa wn wc)],[(b,c1,102)]⟩∧k=Go.Sort.scanDown (fun w=>!ltW P w d1[x]!) d1 (i1) (y-1)) ?hc_j1 ?hs_j1
 case hs_j1=>
  repeat refine sr ?_
  refine A1o (α:=Nat) (fun z=>⟨[],[(12,.int .i64 (i1:Nat)),(13,.int .i64 (z:Nat)),(0,slV b d.size cap),(1,.int .i64 x),(4,cmV P F wa wn wc)],[(b,c1,102)]⟩) (fun z w=>w=v∧i1≤z+1∧z≤y-1∧Go.Sort.scanDown (fun w=>!ltW P w d1[x]!) d1 (i1) (z)=Go.Sort.scanDown (fun w=>!ltW P w d1[x]!) d1 (i1) (y-1)) (fun z=>z) (y-1) ⟨Z,rg,cntL⟩ (Le.refl _) ⟨Z,oM,Nat.le_refl _,Z⟩ ?_
  rintro z v ⟨rfl,hz1,hz2,hz3⟩
  repeat refine st ?_
  refine lexL A1w Z kR ?_
  repeat refine st ?_
  refine A8f Z Z (fun h=>?_) (fun h=>?_)
  ·replace h:=fa h
   obtain⟨z,rfl⟩:∃k,z=k+1:=⟨z-1,oM⟩
   rw [show Go.Sort.scanDown (fun w=>!ltW P w d1[x]!) d1 (i1) (z+1)=(if decide (i1≤z+1) && !ltW P d1[z+1]! d1[x]! then Go.Sort.scanDown (fun w=>!ltW P w d1[x]!) d1 (i1) (z)else z+1)from rfl]at hz3
   repeat refine st ?_
   refine A2i tab (z+1) Z Z Z Z oM Z Z oM ?_
   refine A1y tab Z Z Z InB.head (hD0.read oM) ?_
   repeat refine st ?_
   refine A2i tab (x) Z Z Z Z oM Z Z oM ?_
   refine A1y tab Z Z Z InB.head (hD0.read oM) ?_
   repeat refine st ?_
   refine A3r A5i Z Z Z Z Z (A2s hP (hD0.ok oM) (hD0.ok oM)) ?_
   repeat refine st ?_
   cases hlt:ltW P d1[z+1]! d1[x]! with
   | true=>
    rw [show decide (cmpW P d1[z+1]! d1[x]! < 0)=true from hlt]
    rw [if_neg (by rw [hlt];simp)]at hz3
    repeat refine sr ?_
    exact A0c ⟨_,v,⟨Z,z+1,Z,hz3⟩,⟨Z,rg,cntL⟩,Le.refl _⟩
   | false=>
    rw [show decide (cmpW P d1[z+1]! d1[x]! < 0)=false from hlt]
    rw [if_pos (by rw [hlt];simp;omega)]at hz3
    repeat refine sr ?_
    refine A0c ⟨z,v,oM,⟨Z,?_,cntL⟩,Le.refl _,Z,oM,oM,hz3⟩
    refine⟨Z,?_,rg⟩
    show some (Value.int .i64 (((z+1:Nat):Int)-1))=some (Value.int .i64 (z:Int))
    congr 2;omega
  ·replace h:=fa h
   have hz4:z=Go.Sort.scanDown (fun w=>!ltW P w d1[x]!) d1 (i1) (z):=by
    cases z with
    | zero=>rfl
    | succ z=>rw [show Go.Sort.scanDown (fun w=>!ltW P w d1[x]!) d1 (i1) (z+1)=(if decide (i1≤z+1) && !ltW P d1[z+1]! d1[x]! then Go.Sort.scanDown (fun w=>!ltW P w d1[x]!) d1 (i1) (z)else z+1)from rfl,if_neg (by simp;omega)]
   rw [hz3]at hz4
   repeat refine sr ?_
   exact A0c ⟨_,v,⟨Z,z,Z,hz4⟩,⟨Z,rg,cntL⟩,Le.refl _⟩
 rintro _ v ⟨rfl,j1,rfl,hk_j1⟩
 have hb_j1:=Go.Sort.scanDown_spec (fun w=>!ltW P w d1[x]!) d1 (i1) (y-1)
 rw [←hk_j1]at hb_j1
 have hc_j1:=hb_j1.1
 have hd_j1:=hb_j1.2.1 oM
 have he_j1:=hb_j1.2.2.2
 clear hb_j1
 have hpart:partition (ltW P) d x y p=(if i1 > j1 then(j1,true,swp d1 j1 x)else((partLoop (ltW P) x (i1+1) (j1-1) (swp d1 i1 j1)).1,false,swp (partLoop (ltW P) x (i1+1) (j1-1) (swp d1 i1 j1)).2 (partLoop (ltW P) x (i1+1) (j1-1) (swp d1 i1 j1)).1 x)):=by
  unfold partition
  simp only [←hd1,←hk_i1,←hk_j1]
 refine A5o ?_
 repeat refine sr ?_
 refine A0t Z (fun h=>?_) (fun h=>?_)
 ·replace h:=fa h
  rw [hpart,if_pos oM]
  repeat refine sr ?_
  ((refine A2u [13,15] [0,1,2,3,4,5,6,7,8,9,10,11,12,13,14,15] A1w Z kR ?_);(repeat (refine ss ?_));(refine A0v tab (x) Z Z Z kR Z Z (by first|rfl|omega) Z Z oM ?_);(refine A1q tab Z Z Z kR Z ib (hD0.read oM) ?_);(repeat (refine ss ?_));(refine A0v tab (j1) Z Z Z kR Z Z (by first|rfl|omega) Z Z oM ?_);(refine A1q tab Z Z Z kR Z ib (hD0.read oM) ?_);(refine A0v tab (j1) Z Z Z kR Z Z (by first|rfl|omega) Z Z oM ?_);(refine S_do kR (A1j tab Z Z Z Z Z Z Z ib (hD0.off oM) sb ⟨Le.refl _,kp,?_⟩));(refine A0v tab (x) Z Z Z kR Z Z (by first|rfl|omega) Z Z oM ?_);(refine S_do kR (A1j tab Z Z Z Z Z Z Z ib ((hD0.set oM (hD0.ok oM)).off (by first|simpa using oM|(simp;omega))) sb ⟨Le.refl _,kp,?_⟩));(repeat (refine ss ?_)))
  repeat refine sr ?_
  refine A0l tab [(b,_,102)] (by exact .tmp rfl (.tmp rfl .nil)) (Back.here cntL) ?_
  exact⟨Z,_,_,Z,hD0.swp oM oM,by rw [Go.Sort.size_swp,hs0],Z⟩
 ·replace h:=fa h
  rw [hpart,if_neg oM]
  clear hpart
  have hne:i1≠j1:=by
   intro e
   have e1:=he_i1 oM
   have e2:=he_j1 oM oM
   rw [e]at e1
   try simp only at e1 e2
   rw [e1]at e2
   cases e2
  repeat refine sr ?_
  ((refine A2u [13,15] [0,1,2,3,4,5,6,7,8,9,10,11,12,13,14,15] A1w Z kR ?_);(repeat (refine ss ?_));(refine A0v tab (j1) Z Z Z kR Z Z (by first|rfl|omega) Z Z oM ?_);(refine A1q tab Z Z Z kR Z ib (hD0.read oM) ?_);(repeat (refine ss ?_));(refine A0v tab (i1) Z Z Z kR Z Z (by first|rfl|omega) Z Z oM ?_);(refine A1q tab Z Z Z kR Z ib (hD0.read oM) ?_);(refine A0v tab (i1) Z Z Z kR Z Z (by first|rfl|omega) Z Z oM ?_);(refine S_do kR (A1j tab Z Z Z Z Z Z Z ib (hD0.off oM) sb ⟨Le.refl _,kp,?_⟩));(refine A0v tab (j1) Z Z Z kR Z Z (by first|rfl|omega) Z Z oM ?_);(refine S_do kR (A1j tab Z Z Z Z Z Z Z ib ((hD0.set oM (hD0.ok oM)).off (by first|simpa using oM|(simp;omega))) sb ⟨Le.refl _,kp,?_⟩));(repeat (refine ss ?_)))
  repeat refine sr ?_
  have hD1:=hD0.swp (i:=i1) (j:=j1) oM oM
  have hs1:(swp d1 i1 j1).size=d.size:=by rw [Go.Sort.size_swp,hs0]
  rw [show((j1:Int)-1)=((j1-1:Nat):Int) by omega]
  refine A6f (fun τ w=>w=v∧∃(k:Nat) (d2:Array Wl) (c2:Array Value),τ=⟨[],[(13,.int .i64 k),(0,slV b d.size cap),(1,.int .i64 x)],[(b,c2,102)]⟩∧DB P cap d2 c2∧d2.size=d.size∧x≤k∧k<y∧(k,d2)=partLoop (ltW P) x (i1+1) (j1-1) (swp d1 i1 j1)) ?hcO ?hsO
  case hsO=>
   repeat refine sr ?_
   refine A1o (α:=AS3) (fun z=>⟨[],[(12,.int .i64 z.1),(13,.int .i64 z.2.1),(0,slV b d.size cap),(1,.int .i64 x),(4,cmV P F wa wn wc)],[(b,z.2.2.2,102)]⟩)
    (fun z w=>w=v∧DB P cap z.2.2.1 z.2.2.2∧z.2.2.1.size=d.size∧x<z.1∧z.1≤z.2.1+1∧z.2.1<y∧partLoop (ltW P) x z.1 z.2.1 z.2.2.1=partLoop (ltW P) x (i1+1) (j1-1) (swp d1 i1 j1)) (fun z=>z.2.1+1-z.1) (i1+1,j1-1,swp d1 i1 j1,A1l (A1l c1 (0+(i1)*2) (wlV d1[j1]!).cells.toList) (0+(j1)*2) (wlV d1[i1]!).cells.toList)
    ⟨Z,rg,cntL⟩ (Le.refl _) ⟨Z,hD1,hs1,by simp only;omega,by simp only;omega,by simp only;omega,Z⟩ ?_
   rintro⟨i,j,d3,c3⟩ v ⟨rfl,hD2,hs2,hxi,hij,hjy,hr⟩
   simp only at hD2 hs2 hxi hij hjy hr
   dsimp only
   rw [Go.Sort.partLoop_eq]at hr
   repeat refine sr ?_
   refine A6f (fun τ w=>w=v∧∃k:Nat,τ=⟨[],[(12,.int .i64 (k:Nat)),(13,.int .i64 (j:Nat)),(0,slV b d.size cap),(1,.int .i64 x),(4,cmV P F wa wn wc)],[(b,c3,102)]⟩∧k=Go.Sort.scanUp (fun w=>ltW P w d3[x]!) d3 (j) (i)) ?hc_i2 ?hs_i2
   case hs_i2=>
    repeat refine sr ?_
    refine A1o (α:=Nat) (fun z=>⟨[],[(12,.int .i64 (z:Nat)),(13,.int .i64 (j:Nat)),(0,slV b d.size cap),(1,.int .i64 x),(4,cmV P F wa wn wc)],[(b,c3,102)]⟩) (fun z w=>w=v∧i≤z∧z≤j+1∧Go.Sort.scanUp (fun w=>ltW P w d3[x]!) d3 (j) (z)=Go.Sort.scanUp (fun w=>ltW P w d3[x]!) d3 (j) (i)) (fun z=>j+1-z) (i) ⟨Z,rg,cntL⟩ (Le.refl _) ⟨Z,Nat.le_refl _,oM,Z⟩ ?_
    rintro z v ⟨rfl,hz1,hz2,hz3⟩
    rw [Go.Sort.scanUp]at hz3
    repeat refine st ?_
    refine lexL A1w Z kR ?_
    repeat refine st ?_
    refine A8f Z Z (fun h=>?_) (fun h=>?_)
    ·replace h:=fa h
     repeat refine st ?_
     refine A2i tab (z) Z Z Z Z oM Z Z oM ?_
     refine A1y tab Z Z Z InB.head (hD2.read oM) ?_
     repeat refine st ?_
     refine A2i tab (x) Z Z Z Z oM Z Z oM ?_
     refine A1y tab Z Z Z InB.head (hD2.read oM) ?_
     repeat refine st ?_
     refine A3r A5i Z Z Z Z Z (A2s hP (hD2.ok oM) (hD2.ok oM)) ?_
     repeat refine st ?_
     cases hlt:ltW P d3[z]! d3[x]! with
     | true=>
      rw [show decide (cmpW P d3[z]! d3[x]! < 0)=true from hlt]
      rw [if_pos (by rw [hlt];simp;omega)]at hz3
      repeat refine sr ?_
      exact A0c ⟨z+1,v,oM,⟨Z,rg,cntL⟩,Le.refl _,Z,oM,oM,hz3⟩
     | false=>
      rw [show decide (cmpW P d3[z]! d3[x]! < 0)=false from hlt]
      rw [if_neg (by rw [hlt];simp)]at hz3
      repeat refine sr ?_
      exact A0c ⟨_,v,⟨Z,z,Z,hz3⟩,⟨Z,rg,cntL⟩,Le.refl _⟩
    ·replace h:=fa h
     rw [if_neg (by simp;omega)]at hz3
     repeat refine sr ?_
     exact A0c ⟨_,v,⟨Z,z,Z,hz3⟩,⟨Z,rg,cntL⟩,Le.refl _⟩
   rintro _ v ⟨rfl,i2,rfl,hk_i2⟩
   have hb_i2:=Go.Sort.scanUp_spec (fun w=>ltW P w d3[x]!) d3 (j) _ (i) Z
   rw [←hk_i2]at hb_i2
   have hc_i2:=hb_i2.1
   have hd_i2:=hb_i2.2.1 oM
   have he_i2:=hb_i2.2.2.2
   clear hb_i2
   rw [←hk_i2]at hr
   repeat refine sr ?_
   refine A6f (fun τ w=>w=v∧∃k:Nat,τ=⟨[],[(12,.int .i64 (i2:Nat)),(13,.int .i64 (k:Nat)),(0,slV b d.size cap),(1,.int .i64 x),(4,cmV P F wa wn wc)],[(b,c3,102)]⟩∧k=Go.Sort.scanDown (fun w=>!ltW P w d3[x]!) d3 (i2) (j)) ?hc_j2 ?hs_j2
   case hs_j2=>
    repeat refine sr ?_
    refine A1o (α:=Nat) (fun z=>⟨[],[(12,.int .i64 (i2:Nat)),(13,.int .i64 (z:Nat)),(0,slV b d.size cap),(1,.int .i64 x),(4,cmV P F wa wn wc)],[(b,c3,102)]⟩) (fun z w=>w=v∧i2≤z+1∧z≤j∧Go.Sort.scanDown (fun w=>!ltW P w d3[x]!) d3 (i2) (z)=Go.Sort.scanDown (fun w=>!ltW P w d3[x]!) d3 (i2) (j)) (fun z=>z) (j) ⟨Z,rg,cntL⟩ (Le.refl _) ⟨Z,oM,Nat.le_refl _,Z⟩ ?_
    rintro z v ⟨rfl,hz1,hz2,hz3⟩
    repeat refine st ?_
    refine lexL A1w Z kR ?_
    repeat refine st ?_
    refine A8f Z Z (fun h=>?_) (fun h=>?_)
    ·replace h:=fa h
     obtain⟨z,rfl⟩:∃k,z=k+1:=⟨z-1,oM⟩
     rw [show Go.Sort.scanDown (fun w=>!ltW P w d3[x]!) d3 (i2) (z+1)=(if decide (i2≤z+1) && !ltW P d3[z+1]! d3[x]! then Go.Sort.scanDown (fun w=>!ltW P w d3[x]!) d3 (i2) (z)else z+1)from rfl]at hz3
     repeat refine st ?_
     refine A2i tab (z+1) Z Z Z Z oM Z Z oM ?_
     refine A1y tab Z Z Z InB.head (hD2.read oM) ?_
     repeat refine st ?_
     refine A2i tab (x) Z Z Z Z oM Z Z oM ?_
     refine A1y tab Z Z Z InB.head (hD2.read oM) ?_
     repeat refine st ?_
     refine A3r A5i Z Z Z Z Z (A2s hP (hD2.ok oM) (hD2.ok oM)) ?_
     repeat refine st ?_
     cases hlt:ltW P d3[z+1]! d3[x]! with
     | true=>
      rw [show decide (cmpW P d3[z+1]! d3[x]! < 0)=true from hlt]
      rw [if_neg (by rw [hlt];simp)]at hz3
      repeat refine sr ?_
      exact A0c ⟨_,v,⟨Z,z+1,Z,hz3⟩,⟨Z,rg,cntL⟩,Le.refl _⟩
     | false=>
      rw [show decide (cmpW P d3[z+1]! d3[x]! < 0)=false from hlt]
      rw [if_pos (by rw [hlt];simp;omega)]at hz3
      repeat refine sr ?_
      refine A0c ⟨z,v,oM,⟨Z,?_,cntL⟩,Le.refl _,Z,oM,oM,hz3⟩
      refine⟨Z,?_,rg⟩
      show some (Value.int .i64 (((z+1:Nat):Int)-1))=some (Value.int .i64 (z:Int))
      congr 2;omega
    ·replace h:=fa h
     have hz4:z=Go.Sort.scanDown (fun w=>!ltW P w d3[x]!) d3 (i2) (z):=by
      cases z with
      | zero=>rfl
      | succ z=>rw [show Go.Sort.scanDown (fun w=>!ltW P w d3[x]!) d3 (i2) (z+1)=(if decide (i2≤z+1) && !ltW P d3[z+1]! d3[x]! then Go.Sort.scanDown (fun w=>!ltW P w d3[x]!) d3 (i2) (z)else z+1)from rfl,if_neg (by simp;omega)]
     rw [hz3]at hz4
     repeat refine sr ?_
     exact A0c ⟨_,v,⟨Z,z,Z,hz4⟩,⟨Z,rg,cntL⟩,Le.refl _⟩
   rintro _ v ⟨rfl,j2,rfl,hk_j2⟩
   have hb_j2:=Go.Sort.scanDown_spec (fun w=>!ltW P w d3[x]!) d3 (i2) (j)
   rw [←hk_j2]at hb_j2
   have hc_j2:=hb_j2.1
   have hd_j2:=hb_j2.2.1 oM
   have he_j2:=hb_j2.2.2.2
   clear hb_j2
   rw [←hk_j2]at hr
   refine A5o ?_
   repeat refine sr ?_
   refine A0t Z (fun h=>?_) (fun h=>?_)
   ·replace h:=fa h
    rw [if_pos oM]at hr
    repeat refine sr ?_
    exact A0c ⟨_,v,⟨Z,j2,d3,c3,Z,hD2,hs2,oM,oM,hr⟩,⟨Z,rg,cntL⟩,Le.refl _⟩
   ·replace h:=fa h
    rw [if_neg oM]at hr
    have hne:i2≠j2:=by
     intro e
     have e1:=he_i2 oM
     have e2:=he_j2 oM oM
     rw [e]at e1
     try simp only at e1 e2
     rw [e1]at e2
     cases e2
    repeat refine sr ?_
    ((refine A2u [13,15] [0,1,2,3,4,5,6,7,8,9,10,11,12,13,14,15] A1w Z kR ?_);(repeat (refine ss ?_));(refine A0v tab (j2) Z Z Z kR Z Z (by first|rfl|omega) Z Z oM ?_);(refine A1q tab Z Z Z kR Z ib (hD2.read oM) ?_);(repeat (refine ss ?_));(refine A0v tab (i2) Z Z Z kR Z Z (by first|rfl|omega) Z Z oM ?_);(refine A1q tab Z Z Z kR Z ib (hD2.read oM) ?_);(refine A0v tab (i2) Z Z Z kR Z Z (by first|rfl|omega) Z Z oM ?_);(refine S_do kR (A1j tab Z Z Z Z Z Z Z ib (hD2.off oM) sb ⟨Le.refl _,kp,?_⟩));(refine A0v tab (j2) Z Z Z kR Z Z (by first|rfl|omega) Z Z oM ?_);(refine S_do kR (A1j tab Z Z Z Z Z Z Z ib ((hD2.set oM (hD2.ok oM)).off (by first|simpa using oM|(simp;omega))) sb ⟨Le.refl _,kp,?_⟩));(repeat (refine ss ?_)))
    repeat refine sr ?_
    refine A0c ⟨(i2+1,j2-1,swp d3 i2 j2,_),v,by simp only;omega,⟨Z,?_,cntL⟩,Le.refl _,Z,hD2.swp oM oM,by rw [Go.Sort.size_swp,hs2],by simp only;omega,by simp only;omega,by simp only;omega,hr⟩
    refine⟨Z,?_,rg⟩
    show some (Value.int .i64 ((j2:Int)-1))=some (Value.int .i64 ((j2-1:Nat):Int))
    congr 2;omega
  rintro _ v ⟨rfl,k,d2,c2,rfl,hD2,hs2,hxk,hky,hr⟩
  rw [←hr]
  repeat refine sr ?_
  ((refine A2u [13,15] [0,1,2,3,4,5,6,7,8,9,10,11,12,13,14,15] A1w Z kR ?_);(repeat (refine ss ?_));(refine A0v tab (x) Z Z Z kR Z Z (by first|rfl|omega) Z Z oM ?_);(refine A1q tab Z Z Z kR Z ib (hD2.read oM) ?_);(repeat (refine ss ?_));(refine A0v tab (k) Z Z Z kR Z Z (by first|rfl|omega) Z Z oM ?_);(refine A1q tab Z Z Z kR Z ib (hD2.read oM) ?_);(refine A0v tab (k) Z Z Z kR Z Z (by first|rfl|omega) Z Z oM ?_);(refine S_do kR (A1j tab Z Z Z Z Z Z Z ib (hD2.off oM) sb ⟨Le.refl _,kp,?_⟩));(refine A0v tab (x) Z Z Z kR Z Z (by first|rfl|omega) Z Z oM ?_);(refine S_do kR (A1j tab Z Z Z Z Z Z Z ib ((hD2.set oM (hD2.ok oM)).off (by first|simpa using oM|(simp;omega))) sb ⟨Le.refl _,kp,?_⟩));(repeat (refine ss ?_)))
  repeat refine sr ?_
  refine A0l tab [(b,_,102)] (by exact .tmp rfl (.tmp rfl .nil)) (Back.here cntL) ?_
  exact⟨Z,_,_,Z,hD2.swp oM oM,by rw [Go.Sort.size_swp,hs2],Z⟩
end
end Go.Proofs.YtiolobmgibdfmaaGreat
end
section
namespace Go.Proofs.YtiolobmgibdfmaaGreat
open Go Go.Pal Go.Pal.Vo Go.Conc View
open Go.Proofs.Tryz
open Go.Sort (swp PermIn)
set_option maxHeartbeats 4000000
section
variable{mn:Who}{v:View}{P cap:Nat}{d:Array Wl}{c:Array Value}
abbrev ptV(b:Nat):Value:=.pointer (some ⟨b,0,none⟩)
theorem order2_x{b bs x y n:Nat}{F:Int}{wa:Option Addr}{wn wc:Nat}(hP:P<8)(hD:DB P cap d c)(hcap:d.size<2^30)(hx:x<d.size)(hy:y<d.size)(hn:n<2^40) :
  CallsB prog mn 209 #[slV b d.size cap,natV x,natV y,ptV bs,cmV P F wa wn wc] (RetB fun r β'=>∃p q,r = .tuple #[natV p,natV q]∧(p=x∧q=y∨p=y∧q=x)∧∃m,m≤n+1∧β'=[(b,c,102),(bs,#[natV m],3)]) [(b,c,102),(bs,#[natV n],3)] v:=by
 refine A0f tab func209 Z nB (args:=[_,_,_,_,_]) ?_
 have hle:=hD.le
 repeat refine st ?_
 refine lexL A1w Z kR ?_
 repeat refine st ?_
 refine A2i tab y Z Z Z Z oM Z Z oM ?_
 refine A1y tab Z Z Z InB.head (hD.read oM) ?_
 repeat refine st ?_
 refine A2i tab x Z Z Z Z oM Z Z oM ?_
 refine A1y tab Z Z Z InB.head (hD.read oM) ?_
 repeat refine st ?_
 refine A3r A5i Z Z Z Z Z (A2s hP (hD.ok oM) (hD.ok oM)) ?_
 repeat refine st ?_
 refine A0t Z (fun h=>?_) (fun h=>?_)
 ·repeat refine st ?_
  refine A0l tab [(b,c,102),(bs,#[natV (n+1)],3)] (by exact .tmp rfl (.tmp rfl .nil)) (Back.here cntL) ?_
  exact⟨y,x,Z,.inr ⟨Z,Z⟩,n+1,Nat.le_refl _,Z⟩
 ·repeat refine st ?_
  refine A0l tab [(b,c,102),(bs,#[natV n],3)] (by exact .tmp rfl (.tmp rfl .nil)) (Back.here cntL) ?_
  exact⟨x,y,Z,.inl ⟨Z,Z⟩,n,oM,Z⟩
theorem median_x{b bs x y z n:Nat}{F:Int}{wa:Option Addr}{wn wc:Nat}(hP:P<8)(hD:DB P cap d c)(hcap:d.size<2^30)(hx:x<d.size)(hy:y<d.size)(hz:z<d.size)(hn:n<2^39) :
  CallsB prog mn 207 #[slV b d.size cap,natV x,natV y,natV z,ptV bs,cmV P F wa wn wc] (RetB fun r β'=>(∃k,(k=x∨k=y∨k=z)∧r=natV k)∧∃m,m≤n+3∧β'=[(b,c,102),(bs,#[natV m],3)]) [(b,c,102),(bs,#[natV n],3)] v:=by
 refine A0f tab func207 Z nB (args:=[_,_,_,_,_,_]) ?_
 repeat refine st ?_
 refine Q_op fun ho=>A0i [(b,c,102),(bs,#[natV n],3)] [] ho bod209 Z Z Z Z Z cntA (order2_x hP hD oM hx hy oM) (fun x β' hR=>?_)
 clear ho
 obtain⟨p1,q1,rfl,h1,m1,hm1,rfl⟩:=hR
 rw [List.append_nil]
 repeat refine st ?_
 refine Q_op fun ho=>A0i [(b,c,102),(bs,#[natV m1],3)] [] ho bod209 Z Z Z Z Z cntA (order2_x hP hD oM (x:=q1) oM hz oM) (fun x β' hR=>?_)
 clear ho
 obtain⟨p2,q2,rfl,h2,m2,hm2,rfl⟩:=hR
 rw [List.append_nil]
 repeat refine st ?_
 refine Q_op fun ho=>A0i [(b,c,102),(bs,#[natV m2],3)] [] ho bod209 Z Z Z Z Z cntA (order2_x hP hD oM (x:=p1) (y:=p2) oM oM oM) (fun x β' hR=>?_)
 clear ho
 obtain⟨p3,q3,rfl,h3,m3,hm3,rfl⟩:=hR
 rw [List.append_nil]
 repeat refine st ?_
 refine A0l tab [(b,c,102),(bs,#[natV m3],3)] (by exact .tmp rfl .nil) (Back.here cntL) ?_
 exact⟨⟨q3,oM,Z⟩,m3,oM,Z⟩
theorem medAdj_x{b bs x n:Nat}{F:Int}{wa:Option Addr}{wn wc:Nat}(hP:P<8)(hD:DB P cap d c)(hcap:d.size<2^30)(hx0:1≤x)(hx:x+1<d.size)(hn:n<2^39) :
  CallsB prog mn 206 #[slV b d.size cap,natV x,ptV bs,cmV P F wa wn wc] (RetB fun r β'=>(∃k,(k+1=x∨k=x∨k=x+1)∧r=natV k)∧∃m,m≤n+3∧β'=[(b,c,102),(bs,#[natV m],3)]) [(b,c,102),(bs,#[natV n],3)] v:=by
 refine A0f tab func206 Z nB (args:=[_,_,_,_]) ?_
 have hle:=hD.le
 repeat refine st ?_
 refine Q_op fun ho=>A0i [(b,c,102),(bs,#[natV n],3)] [] ho bod207 Z Z Z Z Z cntA (by rw [show((x:Int)-1)=((x-1:Nat):Int) by omega];exact median_x hP hD oM (x:=x-1) (y:=x) (z:=x+1) oM oM oM oM) (fun x β' hR=>?_)
 clear ho
 obtain⟨⟨k,hk,rfl⟩,m,hm,rfl⟩:=hR
 rw [List.append_nil]
 repeat refine st ?_
 refine A0l tab [(b,c,102),(bs,#[natV m],3)] (by exact .tmp rfl .nil) (Back.here cntL) ?_
 exact⟨⟨k,oM,Z⟩,m,oM,Z⟩
theorem q4{l k:Nat}(h:l<2^30)(hk:k≤3):IntKind.i64.wrap (IntKind.i64.wrap ((l:Int).tdiv 4)*(k:Int))=((l / 4*k:Nat):Int):=by
 have h1:(l:Int).tdiv 4=((l / 4:Nat):Int):=rfl
 have h2:l / 4*k≤2^30*3:=Nat.mul_le_mul oM hk
 rw [h1,A4k (x:=((l / 4:Nat):Int)) oM oM,←Int.natCast_mul,A4k oM oM]
theorem q5{l k x:Nat}(h:l<2^30)(hx:x<2^30)(hk:k≤3):IntKind.i64.wrap ((x:Int)+IntKind.i64.wrap (IntKind.i64.wrap ((l:Int).tdiv 4)*(k:Int)))=((x+l / 4*k:Nat):Int):=by
 have h2:l / 4*k≤2^30*3:=Nat.mul_le_mul oM hk
 rw [q4 h hk,←Int.natCast_add,A4k oM oM]
theorem pivot_x{b x y:Nat}{F:Int}{wa:Option Addr}{wn wc:Nat}(hP:P<8)(hD:DB P cap d c)(hcap:d.size<2^30)(hxy:x<y)(hy:y≤d.size) :
  CallsB prog mn 188 #[slV b d.size cap,natV x,natV y,cmV P F wa wn wc] (RetB fun r β'=>(∃k h,(x≤k∧k<y)∧h≤2∧r = .tuple #[natV k,natV h])∧β'=[(b,c,102)]) [(b,c,102)] v:=by
 refine A0f tab func188 Z nB (args:=[_,_,_,_]) ?_
 have hle:=hD.le
 obtain⟨l,hl⟩:∃l,l=y-x:=⟨_,rfl⟩
 repeat (first|refine sr ?_|refine qb fun bx=>?_)
 rw [show((y:Int)-(x:Int))=(l:Int) by omega]
 rw [show IntKind.i64.wrap ((x:Int)+IntKind.i64.wrap (IntKind.i64.wrap ((l:Int).tdiv 4)*1))=((x+l / 4*1:Nat):Int)from q5 (k:=1) oM oM oM]
 rw [show IntKind.i64.wrap ((x:Int)+IntKind.i64.wrap (IntKind.i64.wrap ((l:Int).tdiv 4)*2))=((x+l / 4*2:Nat):Int)from q5 (k:=2) oM oM oM]
 rw [show IntKind.i64.wrap ((x:Int)+IntKind.i64.wrap (IntKind.i64.wrap ((l:Int).tdiv 4)*3))=((x+l / 4*3:Nat):Int)from q5 (k:=3) oM oM oM]
 refine A6f (fun τ w=>w=v∧∃(k m:Nat),τ=⟨[],[(13,natV k),(11,ptV bx)],[(b,c,102),(bx,#[natV m],3)]⟩∧x≤k∧k<y) ?hc ?hs
 case hs=>
  refine A5o ?_
  repeat (first|refine sr ?_|refine qb fun bx=>?_)
  by_cases h8:l≥8
  ·rw [show decide ((l:Int)≥8)=true from decide_eq_true oM]
   refine cs ?_
   by_cases h50:l≥50
   ·rw [show decide ((l:Int)≥50)=true from decide_eq_true oM]
    refine cs ?_
    refine Q_op fun ho=>A0i [(b,c,102),(bx,#[natV 0],3)] [] ho bod206 Z Z Z Z Z (show ∀p,Pal.cnt p [(bx,#[natV 0],3),(b,c,102)]=Pal.cnt p ([(b,c,102),(bx,#[natV 0],3)]++[])from cntA) (medAdj_x hP hD oM (x:=x+l / 4*1) oM oM oM) (fun x β' hR=>?_)
    clear ho
    obtain⟨⟨k1,hk1,rfl⟩,m1,hm1,rfl⟩:=hR
    rw [List.append_nil]
    refine cs ?_
    refine Q_op fun ho=>A0i [(b,c,102),(bx,#[natV m1],3)] [] ho bod206 Z Z Z Z Z cntA (medAdj_x hP hD oM (x:=x+l / 4*2) oM oM oM) (fun x β' hR=>?_)
    clear ho
    obtain⟨⟨k2,hk2,rfl⟩,m2,hm2,rfl⟩:=hR
    rw [List.append_nil]
    refine cs ?_
    refine Q_op fun ho=>A0i [(b,c,102),(bx,#[natV m2],3)] [] ho bod206 Z Z Z Z Z cntA (medAdj_x hP hD oM (x:=x+l / 4*3) oM oM oM) (fun x β' hR=>?_)
    clear ho
    obtain⟨⟨k3,hk3,rfl⟩,m3,hm3,rfl⟩:=hR
    rw [List.append_nil]
    refine cs ?_
    refine Q_op fun ho=>A0i [(b,c,102),(bx,#[natV m3],3)] [] ho bod207 Z Z Z Z Z cntA (median_x hP hD oM (x:=k1) (y:=k2) (z:=k3) oM oM oM oM) (fun x β' hR=>?_)
    clear ho
    obtain⟨⟨k4,hk4,rfl⟩,m4,hm4,rfl⟩:=hR
    rw [List.append_nil]
    refine cs ?_
    exact A0c ⟨_,v,⟨Z,k4,m4,Z,oM,oM⟩,⟨Z,rg,cntL⟩,Le.refl _⟩
   ·rw [show decide ((l:Int)≥50)=false from decide_eq_false oM]
    refine cs ?_
    refine Q_op fun ho=>A0i [(b,c,102),(bx,#[natV 0],3)] [] ho bod207 Z Z Z Z Z (show ∀p,Pal.cnt p [(bx,#[natV 0],3),(b,c,102)]=Pal.cnt p ([(b,c,102),(bx,#[natV 0],3)]++[])from cntA) (median_x hP hD oM (x:=x+l / 4*1) (y:=x+l / 4*2) (z:=x+l / 4*3) oM oM oM oM) (fun x β' hR=>?_)
    clear ho
    obtain⟨⟨k4,hk4,rfl⟩,m4,hm4,rfl⟩:=hR
    rw [List.append_nil]
    refine cs ?_
    exact A0c ⟨_,v,⟨Z,k4,m4,Z,oM,oM⟩,⟨Z,rg,cntL⟩,Le.refl _⟩
  ·rw [show decide ((l:Int)≥8)=false from decide_eq_false oM]
   refine cs ?_
   exact A0c ⟨_,v,⟨Z,x+l / 4*2,0,Z,oM,oM⟩,⟨Z,rg,(show ∀p,_≤Pal.cnt p [(bx,#[natV 0],3),(b,c,102)]from cntL)⟩,Le.refl _⟩
 rintro _ v ⟨rfl,k,m,rfl,h1,h2⟩
 repeat (first|refine st ?_|refine qb fun bx=>?_)
 refine A0t Z (fun h=>?_) (fun h=>?_)
 ·repeat (first|refine st ?_|refine qb fun bx=>?_)
  refine A0l tab [(b,c,102)] (by exact .tmp rfl (.tmp rfl .nil)) (Back.here cntL) ?_
  exact⟨⟨k,1,⟨h1,h2⟩,oM,Z⟩,Z⟩
 ·repeat (first|refine st ?_|refine qb fun bx=>?_)
  refine A0t Z (fun h=>?_) (fun h=>?_)
  ·repeat (first|refine st ?_|refine qb fun bx=>?_)
   refine A0l tab [(b,c,102)] (by exact .tmp rfl (.tmp rfl .nil)) (Back.here cntL) ?_
   exact⟨⟨k,2,⟨h1,h2⟩,oM,Z⟩,Z⟩
  ·repeat (first|refine st ?_|refine qb fun bx=>?_)
   refine A0l tab [(b,c,102)] (by exact .tmp rfl (.tmp rfl .nil)) (Back.here cntL) ?_
   exact⟨⟨k,0,⟨h1,h2⟩,oM,Z⟩,Z⟩
end
end Go.Proofs.YtiolobmgibdfmaaGreat
end
section
namespace Go.Proofs.YtiolobmgibdfmaaGreat
open Go Go.Pal Go.Pal.Vo Go.Conc View
open Go.Proofs.Tryz
open Go.Sort (swp PermIn bitsLen)
set_option maxHeartbeats 4000000
section
variable{mn:Who}{v:View}{P cap:Nat}{d:Array Wl}{c:Array Value}
theorem wrapU{x:Nat}(h:x<2^64):IntKind.u64.wrap (x:Int)=x:=by
 simp only [IntKind.wrap,IntKind.signed,IntKind.bits]
 simp
 omega
theorem wrap8{x:Nat}(h:x<256):IntKind.u8.wrap (x:Int)=x:=by
 simp only [IntKind.wrap,IntKind.signed,IntKind.bits]
 simp
 omega
noncomputable def lenS:ByteArray:=match f194.body with
 | some (.seq _ (.seq _ (.seq _ (.seq _ (.seq (.region _ ops _) _)))))=>match ops[3]? with
  | some o=>match o.op with
   | .index _ (.const (.string s)) _=>s
   | _=>.empty
  | _=>.empty
 | _=>.empty
theorem len_tab:(List.range 256).all (fun x=>(lenS[x]?).map (·.toNat)==some (bitsLen x)&&decide (bitsLen x≤8))=true:=by decide +kernel
theorem len64_x{x:Nat}(hx:x<256):Ret1 prog mn 194 [.int .u64 x] (.int .i64 (bitsLen x)) v∧bitsLen x≤8:=by
 have hp:=List.all_eq_true.1 len_tab _ (List.mem_range.2 hx)
 rw [Bool.and_eq_true]at hp
 obtain⟨b,hb,hc⟩:=Option.map_eq_some_iff.1 (eq_of_beq hp.1)
 have h8:bitsLen x≤8:=of_decide_eq_true hp.2
 refine⟨?_,h8⟩
 refine A0f tab func194 Z nB (args:=[_]) ?_
 repeat refine st ?_
 rw [show decide ((x:Int)≥4294967296)=false from decide_eq_false oM]
 repeat refine st ?_
 rw [show decide ((x:Int)≥65536)=false from decide_eq_false oM]
 repeat refine st ?_
 rw [show decide ((x:Int)≥256)=false from decide_eq_false oM]
 repeat refine st ?_
 refine Q_op fun ho=>A_byte tab ho Z Z Z Z (wrap8 hx) Z (s:=lenS) hb ?_
 clear ho
 repeat refine st ?_
 rw [show IntKind.i64.wrap (0+IntKind.i64.wrap ((b.toNat:Nat):Int))=((bitsLen x:Nat):Int)from by rw [hc,A4k (x:=((bitsLen x:Nat):Int)) oM oM,Int.zero_add,A4k oM oM]]
 refine A0l tab [] (by exact .tmp rfl .nil) (Back.here cntL) ?_
 exact⟨Z,Z⟩
theorem len_x{x:Nat}(hx:x<256):Ret1 prog mn 172 [.int .u64 x] (.int .i64 (bitsLen x)) v:=by
 refine A0f tab func172 Z nB (args:=[_]) ?_
 repeat refine st ?_
 refine Q_op fun ho=>A0s ho bod194 Z Z Z Z Z (len64_x hx).1 ?_
 clear ho
 repeat refine st ?_
 refine A0l tab [] (by exact .tmp rfl .nil) (Back.here cntL) ?_
 exact⟨Z,Z⟩
theorem pow2_x{x:Nat}(hx:x<256):Ret1 prog mn 204 [natV x] (.int .u64 (2 ^ bitsLen x:Nat)) v:=by
 refine A0f tab func204 Z nB (args:=[_]) ?_
 have h8:=(len64_x (mn:=mn) (v:=v) hx).2
 repeat refine st ?_
 rw [wrapU oM]
 refine Q_op fun ho=>A0s ho bod172 Z Z Z Z Z (len_x hx) ?_
 clear ho
 repeat refine st ?_
 refine A0l tab [] (by exact .tmp rfl .nil) (Back.here cntL) ?_
 refine⟨?_,Z⟩
 show Value.int .u64 (IntKind.u64.wrap (1*2 ^ (min ((bitsLen x:Nat):Int).toNat IntKind.u64.bits)))=_
 have h2:min ((bitsLen x:Nat):Int).toNat IntKind.u64.bits=bitsLen x:=by simp [IntKind.bits];omega
 have h3:2 ^ bitsLen x≤2^8:=Nat.pow_le_pow_right dM h8
 rw [h2,show(1:Int)*2 ^ bitsLen x=((2 ^ bitsLen x:Nat):Int) by push_cast;omega,wrapU oM]
theorem next_x{bs:Nat}{s:Int}:CallsB prog mn 205 #[ptV bs] (RetB fun r β'=>∃z:Int,r = .int .u64 z∧β'=[(bs,#[.int .u64 z],228)]) [(bs,#[.int .u64 s],228)] v:=by
 refine A0f tab func205 Z nB (args:=[_]) ?_
 repeat refine st ?_
 refine A2u [9] [0,1,2,3,4,5,6,7,8,9] A1w Z kR ?_
 repeat refine st ?_
 refine A2u [9] [0,1,2,3,4,5,6,7,8,9] A1w Z kR ?_
 repeat refine st ?_
 refine A2u [9] [0,1,2,3,4,5,6,7,8,9] A1w Z kR ?_
 repeat refine st ?_
 refine A0l tab _ (by exact .tmp rfl .nil) (Back.here fun _=>Nat.le_refl _) ?_
 exact⟨_,Z,Z⟩
theorem other{z:Int}{m:Nat}(h0:0<m)(hm:m≤512):∃o:Nat,o<m∧IntKind.i64.wrap (IntKind.u64.wrap ((BitVec.ofInt IntKind.u64.bits z &&& BitVec.ofInt IntKind.u64.bits (IntKind.u64.wrap (((m:Nat):Int)-1))).toNat:Int))=(o:Int):=by
 rw [show((m:Int)-1)=((m-1:Nat):Int) by omega,wrapU (x:=m-1) oM]
 refine⟨(BitVec.ofInt IntKind.u64.bits z &&& BitVec.ofInt IntKind.u64.bits ((m-1:Nat):Int)).toNat,?_,?_⟩
 ·rw [BitVec.toNat_and]
  refine Nat.lt_of_le_of_lt Nat.and_le_right ?_
  rw [BitVec.toNat_ofInt]
  simp [IntKind.bits]
  omega
 ·have h1:(BitVec.ofInt IntKind.u64.bits z &&& BitVec.ofInt IntKind.u64.bits ((m-1:Nat):Int)).toNat≤512:=by
   rw [BitVec.toNat_and]
   refine Nat.le_trans Nat.and_le_right ?_
   rw [BitVec.toNat_ofInt]
   simp [IntKind.bits]
   omega
  rw [wrapU oM,A4k oM oM]
abbrev AS4:=Nat×Int×Array Wl×Array Value
theorem break_x{b x y:Nat}{f:Value}(hD:DB P cap d c)(hcap:d.size<2^30)(h256:y-x<256)(hxy:x≤y)(hy:y≤d.size) :
  CallsB prog mn 187 #[slV b d.size cap,natV x,natV y,f] (RetB fun r β'=>r = .tuple #[]∧SBox P cap b (fun d'=>d'.size=d.size∧PermIn x y d d') β') [(b,c,102)] v:=by
 refine A0f tab func187 Z nB (args:=[_,_,_,_]) ?_
 have hle:=hD.le
 obtain⟨l,hl⟩:∃l,l=y-x:=⟨_,rfl⟩
 repeat (first|refine st ?_|refine qb fun bx=>?_)
 rw [show((y:Int)-(x:Int))=(l:Int) by omega]
 by_cases h8:l≥8
 ·rw [show decide ((l:Int)≥8)=true from decide_eq_true oM]
  repeat (first|refine st ?_|refine qb fun bx=>?_)
  rw [wrapU oM]
  refine Q_op fun ho=>A0s ho bod204 Z Z Z Z Z (pow2_x (x:=l) oM) ?_
  clear ho
  obtain⟨m,hm⟩:∃m,m=2 ^ bitsLen l:=⟨_,rfl⟩
  rw [←hm]
  have hm1:0<m:=by rw [hm];exact Nat.two_pow_pos _
  have hm2:m≤2*l:=by rw [hm];exact Go.Sort.two_pow_bitsLen_le oM
  repeat (first|refine st ?_|refine qb fun bx=>?_)
  rw [show IntKind.i64.wrap (IntKind.i64.wrap ((x:Int)+IntKind.i64.wrap (IntKind.i64.wrap ((l:Int).tdiv 4)*2))-1)=((x+l / 4*2-1:Nat):Int)from by
   rw [show IntKind.i64.wrap ((x:Int)+IntKind.i64.wrap (IntKind.i64.wrap ((l:Int).tdiv 4)*2))=((x+l / 4*2:Nat):Int)from q5 (k:=2) oM oM oM,A4k oM oM]
   omega]
  refine A1o (α:=AS4) (fun z=>⟨[],[(11,natV z.1),(8,natV l),(10,.int .u64 (m:Nat)),(9,ptV bx),(0,slV b d.size cap),(1,natV x)],[(b,z.2.2.2,102),(bx,#[.int .u64 z.2.1],228)]⟩)
   (fun z u=>u=v∧DB P cap z.2.2.1 z.2.2.2∧z.2.2.1.size=d.size∧PermIn x y d z.2.2.1∧x+l / 4*2-1≤z.1∧z.1≤x+l / 4*2+2) (fun z=>x+l / 4*2+2-z.1) (x+l / 4*2-1,(l:Int),d,c)
   ⟨Z,rg,(show ∀p,_≤Pal.cnt p [(bx,#[.int .u64 l],228),(b,c,102)]from cntL)⟩ (Le.refl _) ⟨Z,hD,Z,Go.Sort.permIn_refl _ _ _,Nat.le_refl _,by simp only;omega⟩ ?_
  rintro⟨i,s,d1,c1⟩ u ⟨rfl,hD1,hs1,hp1,hi1,hi2⟩
  simp only at hD1 hs1 hp1 hi1 hi2
  dsimp only
  repeat (first|refine st ?_|refine qb fun bx=>?_)
  rw [show IntKind.i64.wrap (IntKind.i64.wrap ((x:Int)+IntKind.i64.wrap (IntKind.i64.wrap ((l:Int).tdiv 4)*2))+1)=((x+l / 4*2+1:Nat):Int)from by
   rw [show IntKind.i64.wrap ((x:Int)+IntKind.i64.wrap (IntKind.i64.wrap ((l:Int).tdiv 4)*2))=((x+l / 4*2:Nat):Int)from q5 (k:=2) oM oM oM,A4k oM oM]
   omega]
  by_cases hgo:i≤x+l / 4*2+1
  ·rw [show decide ((i:Int)≤((x+l / 4*2+1:Nat):Int))=true from decide_eq_true oM]
   repeat (first|refine st ?_|refine qb fun bx=>?_)
   refine Q_op fun ho=>A0i [(bx,#[.int .u64 s],228)] [(b,c1,102)] ho bod205 Z Z Z Z Z cntA (next_x) (fun x β' hR=>?_)
   clear ho
   obtain⟨z,rfl,rfl⟩:=hR
   obtain⟨o,ho1,ho2⟩:=other (z:=z) hm1 oM
   repeat (first|refine st ?_|refine qb fun bx=>?_)
   rw [ho2]
   by_cases hol:o≥l
   ·rw [show decide ((o:Int)≥(l:Int))=true from decide_eq_true oM]
    repeat (first|refine st ?_|refine qb fun bx=>?_)
    rw [show((o:Int)-(l:Int))=((o-l:Nat):Int) by omega]
    ((refine A2u [17,19] [0,1,2,3,4,5,6,7,8,9,10,11,12,13,14,15,16,17,18,19] A1w Z kR ?_);(repeat (refine ss ?_));(refine A0v tab (x+(o-l)) Z Z Z kR Z Z (by first|rfl|omega) Z Z oM ?_);(refine A1q tab Z Z Z kR Z ib (hD1.read oM) ?_);(repeat (refine ss ?_));(refine A0v tab (i) Z Z Z kR Z Z (by first|rfl|omega) Z Z oM ?_);(refine A1q tab Z Z Z kR Z ib (hD1.read oM) ?_);(refine A0v tab (i) Z Z Z kR Z Z (by first|rfl|omega) Z Z oM ?_);(refine S_do kR (A1j tab Z Z Z Z Z Z Z ib (hD1.off oM) sb ⟨Le.refl _,kp,?_⟩));(refine A0v tab (x+(o-l)) Z Z Z kR Z Z (by first|rfl|omega) Z Z oM ?_);(refine S_do kR (A1j tab Z Z Z Z Z Z Z ib ((hD1.set oM (hD1.ok oM)).off (by first|simpa using oM|(simp;omega))) sb ⟨Le.refl _,kp,?_⟩));(repeat (refine ss ?_)))
    repeat (first|refine st ?_|refine qb fun bx=>?_)
    refine A0c ⟨(i+1,z,swp d1 i (x+(o-l)),A1l (A1l c1 (0+(i)*2) (wlV d1[x+(o-l)]!).cells.toList) (0+(x+(o-l))*2) (wlV d1[i]!).cells.toList),u,by simp only;omega,⟨Z,rg,cntL⟩,Le.refl _,Z,hD1.swp oM oM,by rw [Go.Sort.size_swp,hs1],?_,by simp only;omega,by simp only;omega⟩
    exact Go.Sort.permIn_trans _ _ _ _ _ hp1 (Go.Sort.swp_permIn _ _ _ _ _ oM oM oM oM oM)
   ·rw [show decide ((o:Int)≥(l:Int))=false from decide_eq_false oM]
    repeat (first|refine st ?_|refine qb fun bx=>?_)
    ((refine A2u [17,19] [0,1,2,3,4,5,6,7,8,9,10,11,12,13,14,15,16,17,18,19] A1w Z kR ?_);(repeat (refine ss ?_));(refine A0v tab (x+o) Z Z Z kR Z Z (by first|rfl|omega) Z Z oM ?_);(refine A1q tab Z Z Z kR Z ib (hD1.read oM) ?_);(repeat (refine ss ?_));(refine A0v tab (i) Z Z Z kR Z Z (by first|rfl|omega) Z Z oM ?_);(refine A1q tab Z Z Z kR Z ib (hD1.read oM) ?_);(refine A0v tab (i) Z Z Z kR Z Z (by first|rfl|omega) Z Z oM ?_);(refine S_do kR (A1j tab Z Z Z Z Z Z Z ib (hD1.off oM) sb ⟨Le.refl _,kp,?_⟩));(refine A0v tab (x+o) Z Z Z kR Z Z (by first|rfl|omega) Z Z oM ?_);(refine S_do kR (A1j tab Z Z Z Z Z Z Z ib ((hD1.set oM (hD1.ok oM)).off (by first|simpa using oM|(simp;omega))) sb ⟨Le.refl _,kp,?_⟩));(repeat (refine ss ?_)))
    repeat (first|refine st ?_|refine qb fun bx=>?_)
    refine A0c ⟨(i+1,z,swp d1 i (x+o),A1l (A1l c1 (0+(i)*2) (wlV d1[x+o]!).cells.toList) (0+(x+o)*2) (wlV d1[i]!).cells.toList),u,by simp only;omega,⟨Z,rg,cntL⟩,Le.refl _,Z,hD1.swp oM oM,by rw [Go.Sort.size_swp,hs1],?_,by simp only;omega,by simp only;omega⟩
    exact Go.Sort.permIn_trans _ _ _ _ _ hp1 (Go.Sort.swp_permIn _ _ _ _ _ oM oM oM oM oM)
  ·rw [show decide ((i:Int)≤((x+l / 4*2+1:Nat):Int))=false from decide_eq_false oM]
   repeat (first|refine st ?_|refine qb fun bx=>?_)
   refine A1t tab [(b,c1,102)] .nil (Back.here cntL) ?_
   exact⟨Z,d1,c1,Z,hD1,hs1,hp1⟩
 ·rw [show decide ((l:Int)≥8)=false from decide_eq_false oM]
  repeat (first|refine st ?_|refine qb fun bx=>?_)
  refine A1t tab [(b,c,102)] .nil (Back.here cntL) ?_
  exact⟨Z,d,c,Z,hD,Z,Go.Sort.permIn_refl _ _ _⟩
end
end Go.Proofs.YtiolobmgibdfmaaGreat
end
section
namespace Go.Proofs.YtiolobmgibdfmaaGreat
open Go Go.Pal Go.Pal.Vo Go.Conc View
open Go.Proofs.Tryz
open Go.Sort (swp PermIn scanSorted shiftDown shiftUp partialIns partialInsertionSort fixDown fixUp)
set_option maxHeartbeats 4000000
section
variable{mn:Who}{v:View}{P cap:Nat}{d:Array Wl}{c:Array Value}
abbrev AS5:=Nat×Nat×Array Wl×Array Value
theorem partial_x{b x y:Nat}{F:Int}{wa:Option Addr}{wn wc:Nat}(hP:P<8)(hD:DB P cap d c)(hcap:d.size<2^30)(hxy:x<y)(hy:y≤d.size) :
    CallsB prog mn 190 #[slV b d.size cap,natV x,natV y,cmV P F wa wn wc] (RetB fun r β'=>r = .bool (partialInsertionSort (ltW P) d x y).2∧SBox P cap b (fun d'=>d'.size=d.size∧d'=(partialInsertionSort (ltW P) d x y).1) β') [(b,c,102)] v:=by
  refine A0f tab func190 Z nB (args:=[_,_,_,_]) ?_
  have hle:=hD.le
  repeat refine sr ?_
  refine A5o ?_
  repeat refine sr ?_
  refine A1o (α:=AS5) (fun z=>⟨[],[(9,natV z.1),(10,natV (5-z.2.1)),(0,slV b d.size cap),(1,natV x),(2,natV y),(3,cmV P F wa wn wc)],[(b,z.2.2.2,102)]⟩)
    (fun z w=>w=v∧DB P cap z.2.2.1 z.2.2.2∧z.2.2.1.size=d.size∧x<z.1∧z.1≤y∧z.2.1≤5∧partialIns (ltW P) x y z.2.1 z.1 z.2.2.1=partialInsertionSort (ltW P) d x y) (fun z=>z.2.1) (x+1,5,d,c)
    ⟨Z,rg,cntL⟩ (Le.refl _) ⟨Z,hD,Z,by simp only;omega,by simp only;omega,Nat.le_refl _,Z⟩ ?_
  rintro⟨i,s,d1,c1⟩ v ⟨rfl,hD1,hs1,hxi,hiy,hs5,hr⟩
  simp only at hD1 hs1 hxi hiy hs5 hr
  dsimp only
  refine A5o ?_
  repeat refine sr ?_
  cases s with
  | zero=>
    rw [show decide (((5-0:Nat):Int)<5)=false from rfl]
    repeat refine sr ?_
    refine A0l tab [(b,c1,102)] (by exact .tmp rfl .nil) (Back.here cntL) ?_
    rw [←hr]
    exact⟨Z,d1,c1,Z,hD1,hs1,Z⟩
  | succ s=>
    rw [show decide (((5-(s+1):Nat):Int)<5)=true from decide_eq_true oM]
    rw [Go.Sort.partialIns_succ]at hr
    repeat refine sr ?_
    refine A6f (fun τ w=>w=v∧∃(k:Nat) (d2:Array Wl) (c2:Array Value),τ=⟨[],[(9,natV k),(10,natV (5-(s+1))),(0,slV b d.size cap),(1,natV x),(2,natV y),(3,cmV P F wa wn wc)],[(b,c2,102)]⟩∧DB P cap d2 c2∧d2.size=d.size∧x<k∧k≤y∧partialIns (ltW P) x y s k d2=partialInsertionSort (ltW P) d x y) ?hcO ?hsO
    case hsO=>
      repeat refine sr ?_
      refine A6f (fun τ w=>w=v∧∃(k:Nat),τ=⟨[],[(9,natV k),(10,natV (5-(s+1))),(0,slV b d.size cap),(1,natV x),(2,natV y),(3,cmV P F wa wn wc)],[(b,c1,102)]⟩∧x<k∧k≤y∧k=scanSorted (ltW P) d1 y i) ?hc1 ?hs1
      case hs1=>
        repeat refine sr ?_
        refine A1o (α:=Nat) (fun z=>⟨[],[(9,natV z),(10,natV (5-(s+1))),(0,slV b d.size cap),(1,natV x),(2,natV y),(3,cmV P F wa wn wc)],[(b,c1,102)]⟩) (fun z w=>w=v∧i≤z∧z≤y∧scanSorted (ltW P) d1 y z=scanSorted (ltW P) d1 y i) (fun z=>y-z) i
          ⟨Z,rg,cntL⟩ (Le.refl _) ⟨Z,Nat.le_refl _,hiy,Z⟩ ?_
        rintro z v ⟨rfl,hz1,hz2,hz3⟩
        rw [scanSorted]at hz3
        refine A5o ?_
        repeat refine st ?_
        refine lexL A1w Z kR ?_
        repeat refine st ?_
        refine A8f Z Z (fun h=>?_) (fun h=>?_)
        · replace h:=fa h
          repeat refine st ?_
          refine A2i tab z Z Z Z Z oM Z Z oM ?_
          refine A1y tab Z Z Z InB.head (hD1.read oM) ?_
          repeat refine st ?_
          refine A2i tab (z-1) Z Z Z Z oM Z Z oM ?_
          refine A1y tab Z Z Z InB.head (hD1.read oM) ?_
          repeat refine st ?_
          refine A3r A5i Z Z Z Z Z (A2s hP (hD1.ok oM) (hD1.ok oM)) ?_
          repeat refine st ?_
          cases hlt:ltW P d1[z]! d1[z-1]! with
          | true=>
            rw [show decide (cmpW P d1[z]! d1[z-1]! < 0)=true from hlt]
            rw [if_neg (by rw [hlt];simp)]at hz3
            repeat refine sr ?_
            exact A0c ⟨_,v,⟨Z,z,Z,oM,oM,hz3⟩,⟨Z,rg,cntL⟩,Le.refl _⟩
          | false=>
            rw [show decide (cmpW P d1[z]! d1[z-1]! < 0)=false from hlt]
            rw [if_pos (by rw [hlt];simp;omega)]at hz3
            repeat refine sr ?_
            exact A0c ⟨z+1,v,oM,⟨Z,rg,cntL⟩,Le.refl _,Z,oM,oM,hz3⟩
        · replace h:=fa h
          rw [if_neg (by simp;omega)]at hz3
          repeat refine sr ?_
          exact A0c ⟨_,v,⟨Z,z,Z,oM,oM,hz3⟩,⟨Z,rg,cntL⟩,Le.refl _⟩
      rintro _ v ⟨rfl,k,rfl,hxk,hky,hk⟩
      rw [←hk]at hr
      refine A5o ?_
      repeat refine sr ?_
      by_cases hkb:k=y
      · rw [show((k:Int)==(y:Int))=true from by simp;omega]
        rw [if_pos hkb]at hr
        repeat refine sr ?_
        refine A0l tab [(b,c1,102)] (by exact .tmp rfl .nil) (Back.here cntL) ?_
        rw [←hr]
        exact⟨Z,d1,c1,Z,hD1,hs1,Z⟩
      · rw [show((k:Int)==(y:Int))=false from by simp;omega]
        rw [if_neg hkb]at hr
        repeat refine sr ?_
        refine A5o ?_
        repeat refine sr ?_
        by_cases h50:y-x<50
        · rw [show decide ((y:Int)-(x:Int)<50)=true from decide_eq_true oM]
          rw [if_pos h50]at hr
          repeat refine sr ?_
          refine A0l tab [(b,c1,102)] (by exact .tmp rfl .nil) (Back.here cntL) ?_
          rw [←hr]
          exact⟨Z,d1,c1,Z,hD1,hs1,Z⟩
        · rw [show decide ((y:Int)-(x:Int)<50)=false from decide_eq_false oM]
          rw [if_neg h50]at hr
          repeat refine sr ?_
          ((refine A2u [15,17] [0,1,2,3,4,5,6,7,8,9,10,11,12,13,14,15,16,17] A1w Z kR ?_);(repeat (refine ss ?_));(refine A0v tab (k-1) Z Z Z kR Z Z (by first|rfl|omega) Z Z oM ?_);(refine A1q tab Z Z Z kR Z ib (hD1.read oM) ?_);(repeat (refine ss ?_));(refine A0v tab (k) Z Z Z kR Z Z (by first|rfl|omega) Z Z oM ?_);(refine A1q tab Z Z Z kR Z ib (hD1.read oM) ?_);(refine A0v tab (k) Z Z Z kR Z Z (by first|rfl|omega) Z Z oM ?_);(refine S_do kR (A1j tab Z Z Z Z Z Z Z ib (hD1.off oM) sb ⟨Le.refl _,kp,?_⟩));(refine A0v tab (k-1) Z Z Z kR Z Z (by first|rfl|omega) Z Z oM ?_);(refine S_do kR (A1j tab Z Z Z Z Z Z Z ib ((hD1.set oM (hD1.ok oM)).off (by first|simpa using oM|(simp;omega))) sb ⟨Le.refl _,kp,?_⟩));(repeat (refine ss ?_)))
          repeat refine sr ?_
          have hD2:=hD1.swp (i:=k) (j:=k-1) oM oM
          have hs2:(swp d1 k (k-1)).size=d.size:=by rw [Go.Sort.size_swp,hs1]
          refine A6f (fun τ w=>w=v∧∃(d2:Array Wl) (c2:Array Value),τ=⟨[],[(9,natV k),(10,natV (5-(s+1))),(0,slV b d.size cap),(1,natV x),(2,natV y),(3,cmV P F wa wn wc)],[(b,c2,102)]⟩∧DB P cap d2 c2∧d2.size=d.size∧d2=fixDown (ltW P) x k (swp d1 k (k-1))) ?hc2 ?hs2
          case hs2=>
            refine A5o ?_
            repeat refine sr ?_
            by_cases h2:k-x≥2
            · rw [show decide ((k:Int)-(x:Int)≥2)=true from decide_eq_true oM]
              repeat refine sr ?_
              refine A1o (α:=AS) (fun z=>⟨[],[(11,natV z.1),(9,natV k),(10,natV (5-(s+1))),(0,slV b d.size cap),(1,natV x),(2,natV y),(3,cmV P F wa wn wc)],[(b,z.2.2,102)]⟩)
                (fun z w=>w=v∧DB P cap z.2.1 z.2.2∧z.2.1.size=d.size∧z.1<k∧shiftDown (ltW P) z.1 z.2.1=fixDown (ltW P) x k (swp d1 k (k-1))) (fun z=>z.1) (k-1,swp d1 k (k-1),A1l (A1l c1 (0+(k)*2) (wlV d1[k-1]!).cells.toList) (0+(k-1)*2) (wlV d1[k]!).cells.toList)
                ⟨Z,?_,cntL⟩ (Le.refl _) ⟨Z,hD2,hs2,by simp only;omega,by unfold fixDown;rw [if_pos h2]⟩ ?_
              · refine⟨?_,rg⟩
                show some (Value.int .i64 ((k:Int)-1))=some (Value.int .i64 ((k-1:Nat):Int))
                congr 2;omega
              rintro⟨j,d3,c3⟩ v ⟨rfl,hD3,hs3,hjk,hr3⟩
              simp only at hD3 hs3 hjk hr3
              dsimp only
              refine A5o ?_
              repeat refine sr ?_
              cases j with
              | zero=>
                rw [show decide (((0:Nat):Int)≥1)=false from rfl]
                repeat refine sr ?_
                exact A0c ⟨_,v,⟨Z,d3,c3,Z,hD3,hs3,hr3⟩,⟨Z,rg,cntL⟩,Le.refl _⟩
              | succ j=>
                rw [show decide (((j+1:Nat):Int)≥1)=true from decide_eq_true oM]
                rw [show shiftDown (ltW P) (j+1) d3=(if !ltW P d3[j+1]! d3[j]! then d3 else shiftDown (ltW P) j (swp d3 (j+1) j))from rfl]at hr3
                repeat refine st ?_
                refine lexL A1w Z kR ?_
                repeat refine st ?_
                refine A2i tab (j+1) Z Z Z Z oM Z Z oM ?_
                refine A1y tab Z Z Z InB.head (hD3.read oM) ?_
                repeat refine st ?_
                refine A2i tab j Z Z Z Z oM Z Z oM ?_
                refine A1y tab Z Z Z InB.head (hD3.read oM) ?_
                repeat refine st ?_
                refine A3r A5i Z Z Z Z Z (A2s hP (hD3.ok oM) (hD3.ok oM)) ?_
                repeat refine st ?_
                cases hlt:ltW P d3[j+1]! d3[j]! with
                | true=>
                  rw [show decide (cmpW P d3[j+1]! d3[j]! < 0)=true from hlt]
                  rw [if_neg (by rw [hlt];simp)]at hr3
                  repeat refine sr ?_
                  ((refine A2u [15,17] [0,1,2,3,4,5,6,7,8,9,10,11,12,13,14,15,16,17] A1w Z kR ?_);(repeat (refine ss ?_));(refine A0v tab (j) Z Z Z kR Z Z (by first|rfl|omega) Z Z oM ?_);(refine A1q tab Z Z Z kR Z ib (hD3.read oM) ?_);(repeat (refine ss ?_));(refine A0v tab (j+1) Z Z Z kR Z Z (by first|rfl|omega) Z Z oM ?_);(refine A1q tab Z Z Z kR Z ib (hD3.read oM) ?_);(refine A0v tab (j+1) Z Z Z kR Z Z (by first|rfl|omega) Z Z oM ?_);(refine S_do kR (A1j tab Z Z Z Z Z Z Z ib (hD3.off oM) sb ⟨Le.refl _,kp,?_⟩));(refine A0v tab (j) Z Z Z kR Z Z (by first|rfl|omega) Z Z oM ?_);(refine S_do kR (A1j tab Z Z Z Z Z Z Z ib ((hD3.set oM (hD3.ok oM)).off (by first|simpa using oM|(simp;omega))) sb ⟨Le.refl _,kp,?_⟩));(repeat (refine ss ?_)))
                  repeat refine sr ?_
                  refine A0c ⟨(j,swp d3 (j+1) j,_),v,by simp only;omega,⟨Z,?_,cntL⟩,Le.refl _,Z,hD3.swp oM oM,by rw [Go.Sort.size_swp,hs3],by simp only;omega,hr3⟩
                  refine⟨?_,rg⟩
                  show some (Value.int .i64 (((j+1:Nat):Int)-1))=some (Value.int .i64 (j:Int))
                  congr 2;omega
                | false=>
                  rw [show decide (cmpW P d3[j+1]! d3[j]! < 0)=false from hlt]
                  rw [if_pos (by rw [hlt];rfl)]at hr3
                  repeat refine sr ?_
                  exact A0c ⟨_,v,⟨Z,d3,c3,Z,hD3,hs3,hr3⟩,⟨Z,rg,cntL⟩,Le.refl _⟩
            · rw [show decide ((k:Int)-(x:Int)≥2)=false from decide_eq_false oM]
              repeat refine sr ?_
              exact A0c ⟨_,v,⟨Z,swp d1 k (k-1),A1l (A1l c1 (0+(k)*2) (wlV d1[k-1]!).cells.toList) (0+(k-1)*2) (wlV d1[k]!).cells.toList,Z,hD2,hs2,by unfold fixDown;rw [if_neg h2]⟩,⟨Z,rg,cntL⟩,Le.refl _⟩
          clear hD2 hs2
          rintro _ v ⟨rfl,d2,c2,rfl,hD2,hs2,hd2⟩
          rw [←hd2]at hr
          repeat refine sr ?_
          by_cases h2:y-k≥2
          · rw [show decide ((y:Int)-(k:Int)≥2)=true from decide_eq_true oM]
            repeat refine sr ?_
            refine A1o (α:=AS) (fun z=>⟨[],[(12,natV z.1),(9,natV k),(10,natV (5-(s+1))),(0,slV b d.size cap),(1,natV x),(2,natV y),(3,cmV P F wa wn wc)],[(b,z.2.2,102)]⟩)
              (fun z w=>w=v∧DB P cap z.2.1 z.2.2∧z.2.1.size=d.size∧k<z.1∧shiftUp (ltW P) y z.1 z.2.1=fixUp (ltW P) y k d2) (fun z=>y-z.1) (k+1,d2,c2)
              ⟨Z,rg,cntL⟩ (Le.refl _) ⟨Z,hD2,hs2,by simp only;omega,by unfold fixUp;rw [if_pos h2]⟩ ?_
            rintro⟨j,d3,c3⟩ v ⟨rfl,hD3,hs3,hjk,hr3⟩
            simp only at hD3 hs3 hjk hr3
            dsimp only
            rw [shiftUp]at hr3
            refine A5o ?_
            repeat refine sr ?_
            by_cases hjy:j<y
            · rw [show decide ((j:Int)<(y:Int))=true from decide_eq_true oM]
              rw [if_pos hjy]at hr3
              repeat refine st ?_
              refine lexL A1w Z kR ?_
              repeat refine st ?_
              refine A2i tab j Z Z Z Z oM Z Z oM ?_
              refine A1y tab Z Z Z InB.head (hD3.read oM) ?_
              repeat refine st ?_
              refine A2i tab (j-1) Z Z Z Z oM Z Z oM ?_
              refine A1y tab Z Z Z InB.head (hD3.read oM) ?_
              repeat refine st ?_
              refine A3r A5i Z Z Z Z Z (A2s hP (hD3.ok oM) (hD3.ok oM)) ?_
              repeat refine st ?_
              cases hlt:ltW P d3[j]! d3[j-1]! with
              | true=>
                rw [show decide (cmpW P d3[j]! d3[j-1]! < 0)=true from hlt]
                rw [if_neg (by rw [hlt];simp)]at hr3
                repeat refine sr ?_
                ((refine A2u [15,17] [0,1,2,3,4,5,6,7,8,9,10,11,12,13,14,15,16,17] A1w Z kR ?_);(repeat (refine ss ?_));(refine A0v tab (j-1) Z Z Z kR Z Z (by first|rfl|omega) Z Z oM ?_);(refine A1q tab Z Z Z kR Z ib (hD3.read oM) ?_);(repeat (refine ss ?_));(refine A0v tab (j) Z Z Z kR Z Z (by first|rfl|omega) Z Z oM ?_);(refine A1q tab Z Z Z kR Z ib (hD3.read oM) ?_);(refine A0v tab (j) Z Z Z kR Z Z (by first|rfl|omega) Z Z oM ?_);(refine S_do kR (A1j tab Z Z Z Z Z Z Z ib (hD3.off oM) sb ⟨Le.refl _,kp,?_⟩));(refine A0v tab (j-1) Z Z Z kR Z Z (by first|rfl|omega) Z Z oM ?_);(refine S_do kR (A1j tab Z Z Z Z Z Z Z ib ((hD3.set oM (hD3.ok oM)).off (by first|simpa using oM|(simp;omega))) sb ⟨Le.refl _,kp,?_⟩));(repeat (refine ss ?_)))
                repeat refine sr ?_
                refine A0c ⟨(j+1,swp d3 j (j-1),_),v,by simp only;omega,⟨Z,rg,cntL⟩,Le.refl _,Z,hD3.swp oM oM,by rw [Go.Sort.size_swp,hs3],by simp only;omega,hr3⟩
              | false=>
                rw [show decide (cmpW P d3[j]! d3[j-1]! < 0)=false from hlt]
                rw [if_pos (by rw [hlt];rfl)]at hr3
                repeat refine sr ?_
                exact A0c ⟨_,v,⟨Z,k,d3,c3,Z,hD3,hs3,oM,oM,by rw [hr3];exact hr⟩,⟨Z,rg,cntL⟩,Le.refl _⟩
            · rw [show decide ((j:Int)<(y:Int))=false from decide_eq_false oM]
              rw [if_neg hjy]at hr3
              repeat refine sr ?_
              exact A0c ⟨_,v,⟨Z,k,d3,c3,Z,hD3,hs3,oM,oM,by rw [hr3];exact hr⟩,⟨Z,rg,cntL⟩,Le.refl _⟩
          · rw [show decide ((y:Int)-(k:Int)≥2)=false from decide_eq_false oM]
            have e:fixUp (ltW P) y k d2=d2:=by unfold fixUp;rw [if_neg h2]
            rw [e]at hr
            repeat refine sr ?_
            exact A0c ⟨_,v,⟨Z,k,d2,c2,Z,hD2,hs2,oM,oM,hr⟩,⟨Z,rg,cntL⟩,Le.refl _⟩
    rintro _ v ⟨rfl,k,d2,c2,rfl,hD2,hs2,hxk,hky,hr2⟩
    repeat refine sr ?_
    refine A0c ⟨(k,s,d2,c2),v,by simp only;omega,⟨Z,?_,cntL⟩,Le.refl _,Z,hD2,hs2,by simp only;omega,by simp only;omega,by simp only;omega,hr2⟩
    refine⟨Z,?_,rg⟩
    show some (Value.int .i64 (((5-(s+1):Nat):Int)+1))=some (Value.int .i64 ((5-s:Nat):Int))
    congr 2;omega
end
end Go.Proofs.YtiolobmgibdfmaaGreat
end
