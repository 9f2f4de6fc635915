/- Part 23 of the way to: the laws of the vouchers -/
import Derived.Test.YtiolobmgibdfmaaGreatPaj
import Derived.Test.YtiolobmgibdfmaaGreatPau
import Derived.Test.YtiolobmgibdfmaaGreatPav
set_option linter.unusedVariables false
set_option linter.unusedSimpArgs false
section
namespace Go.Proofs.YtiolobmgibdfmaaGreat
open Go Go.Pal Go.Pal.Vo Go.Conc View
open Go.Proofs.Tryz
open Go.Sort (swp PermIn scanSorted shiftDown shiftUp partialIns partialInsertionSort fixDown fixUp)
set_option maxHeartbeats 4000000
section
variable{mn:Who}{v:View}{P cap:Nat}{d:Array Wl}{c:Array Value}
abbrev AS5:=Nat×Nat×Array Wl×Array Value
theorem partial_x{b x y:Nat}{F:Int}{wa:Option Addr}{wn wc:Nat}(hP:P<8)(hD:DB P cap d c)(hcap:d.size<2^30)(hxy:x<y)(hy:y≤d.size) :
    CallsB prog mn 190 #[slV b d.size cap,natV x,natV y,cmV P F wa wn wc] (RetB fun r β'=>r = .bool (partialInsertionSort (ltW P) d x y).2∧SBox P cap b (fun d'=>d'.size=d.size∧d'=(partialInsertionSort (ltW P) d x y).1) β') [(b,c,102)] v:=by
  refine A0f tab func190 rfl nB (args:=[_,_,_,_]) ?_
  have hle:=hD.le
  repeat (first|refine sr ?_|refine qb fun bx=>?_)
  refine A5o ?_
  repeat (first|refine sr ?_|refine qb fun bx=>?_)
  refine A1o (α:=AS5) (fun z=>⟨[],[(9,natV z.1),(10,natV (5-z.2.1)),(0,slV b d.size cap),(1,natV x),(2,natV y),(3,cmV P F wa wn wc)],[(b,z.2.2.2,102)]⟩)
    (fun z w=>w=v∧DB P cap z.2.2.1 z.2.2.2∧z.2.2.1.size=d.size∧x<z.1∧z.1≤y∧z.2.1≤5∧partialIns (ltW P) x y z.2.1 z.1 z.2.2.1=partialInsertionSort (ltW P) d x y) (fun z=>z.2.1) (x+1,5,d,c)
    ⟨rfl,rg,cntL⟩ (Le.refl _) ⟨rfl,hD,rfl,by simp only;omega,by simp only;omega,Nat.le_refl _,rfl⟩ ?_
  rintro⟨i,s,d1,c1⟩ v ⟨rfl,hD1,hs1,hxi,hiy,hs5,hr⟩
  simp only at hD1 hs1 hxi hiy hs5 hr
  dsimp only
  refine A5o ?_
  repeat (first|refine sr ?_|refine qb fun bx=>?_)
  cases s with
  | zero=>
    rw [show decide (((5-0:Nat):Int)<5)=false from rfl]
    repeat (first|refine sr ?_|refine qb fun bx=>?_)
    refine A0l tab [(b,c1,102)] (by exact .tmp rfl .nil) (Back.here cntL) ?_
    rw [←hr]
    exact⟨rfl,d1,c1,rfl,hD1,hs1,rfl⟩
  | succ s=>
    rw [show decide (((5-(s+1):Nat):Int)<5)=true from decide_eq_true oM]
    rw [Go.Sort.partialIns_succ]at hr
    repeat (first|refine sr ?_|refine qb fun bx=>?_)
    refine A6f (fun τ w=>w=v∧∃(k:Nat) (d2:Array Wl) (c2:Array Value),τ=⟨[],[(9,natV k),(10,natV (5-(s+1))),(0,slV b d.size cap),(1,natV x),(2,natV y),(3,cmV P F wa wn wc)],[(b,c2,102)]⟩∧DB P cap d2 c2∧d2.size=d.size∧x<k∧k≤y∧partialIns (ltW P) x y s k d2=partialInsertionSort (ltW P) d x y) ?hcO ?hsO
    case hsO=>
      repeat (first|refine sr ?_|refine qb fun bx=>?_)
      refine A6f (fun τ w=>w=v∧∃(k:Nat),τ=⟨[],[(9,natV k),(10,natV (5-(s+1))),(0,slV b d.size cap),(1,natV x),(2,natV y),(3,cmV P F wa wn wc)],[(b,c1,102)]⟩∧x<k∧k≤y∧k=scanSorted (ltW P) d1 y i) ?hc1 ?hs1
      case hs1=>
        repeat (first|refine sr ?_|refine qb fun bx=>?_)
        refine A1o (α:=Nat) (fun z=>⟨[],[(9,natV z),(10,natV (5-(s+1))),(0,slV b d.size cap),(1,natV x),(2,natV y),(3,cmV P F wa wn wc)],[(b,c1,102)]⟩) (fun z w=>w=v∧i≤z∧z≤y∧scanSorted (ltW P) d1 y z=scanSorted (ltW P) d1 y i) (fun z=>y-z) i
          ⟨rfl,rg,cntL⟩ (Le.refl _) ⟨rfl,Nat.le_refl _,hiy,rfl⟩ ?_
        rintro z v ⟨rfl,hz1,hz2,hz3⟩
        rw [scanSorted]at hz3
        refine A5o ?_
        repeat (first|refine st ?_|refine qb fun bx=>?_)
        refine lexL A1w rfl kR ?_
        repeat (first|refine st ?_|refine qb fun bx=>?_)
        refine A8f rfl rfl (fun h=>?_) (fun h=>?_)
        · replace h:=fa h
          repeat (first|refine st ?_|refine qb fun bx=>?_)
          refine A2i tab z rfl rfl rfl rfl oM rfl rfl oM ?_
          refine A1y tab rfl rfl rfl InB.head (hD1.read oM) ?_
          repeat (first|refine st ?_|refine qb fun bx=>?_)
          refine A2i tab (z-1) rfl rfl rfl rfl oM rfl rfl oM ?_
          refine A1y tab rfl rfl rfl InB.head (hD1.read oM) ?_
          repeat (first|refine st ?_|refine qb fun bx=>?_)
          refine A3r A5i rfl rfl rfl rfl rfl (A2s hP (hD1.ok oM) (hD1.ok oM)) ?_
          repeat (first|refine st ?_|refine qb fun bx=>?_)
          cases hlt:ltW P d1[z]! d1[z-1]! with
          | true=>
            rw [show decide (cmpW P d1[z]! d1[z-1]! < 0)=true from hlt]
            rw [if_neg (by rw [hlt];simp)]at hz3
            repeat (first|refine sr ?_|refine qb fun bx=>?_)
            exact A0c ⟨_,v,⟨rfl,z,rfl,oM,oM,hz3⟩,⟨rfl,rg,cntL⟩,Le.refl _⟩
          | false=>
            rw [show decide (cmpW P d1[z]! d1[z-1]! < 0)=false from hlt]
            rw [if_pos (by rw [hlt];simp;omega)]at hz3
            repeat (first|refine sr ?_|refine qb fun bx=>?_)
            exact A0c ⟨z+1,v,oM,⟨rfl,rg,cntL⟩,Le.refl _,rfl,oM,oM,hz3⟩
        · replace h:=fa h
          rw [if_neg (by simp;omega)]at hz3
          repeat (first|refine sr ?_|refine qb fun bx=>?_)
          exact A0c ⟨_,v,⟨rfl,z,rfl,oM,oM,hz3⟩,⟨rfl,rg,cntL⟩,Le.refl _⟩
      rintro _ v ⟨rfl,k,rfl,hxk,hky,hk⟩
      rw [←hk]at hr
      refine A5o ?_
      repeat (first|refine sr ?_|refine qb fun bx=>?_)
      by_cases hkb:k=y
      · rw [show((k:Int)==(y:Int))=true from by simp;omega]
        rw [if_pos hkb]at hr
        repeat (first|refine sr ?_|refine qb fun bx=>?_)
        refine A0l tab [(b,c1,102)] (by exact .tmp rfl .nil) (Back.here cntL) ?_
        rw [←hr]
        exact⟨rfl,d1,c1,rfl,hD1,hs1,rfl⟩
      · rw [show((k:Int)==(y:Int))=false from by simp;omega]
        rw [if_neg hkb]at hr
        repeat (first|refine sr ?_|refine qb fun bx=>?_)
        refine A5o ?_
        repeat (first|refine sr ?_|refine qb fun bx=>?_)
        by_cases h50:y-x<50
        · rw [show decide ((y:Int)-(x:Int)<50)=true from decide_eq_true oM]
          rw [if_pos h50]at hr
          repeat (first|refine sr ?_|refine qb fun bx=>?_)
          refine A0l tab [(b,c1,102)] (by exact .tmp rfl .nil) (Back.here cntL) ?_
          rw [←hr]
          exact⟨rfl,d1,c1,rfl,hD1,hs1,rfl⟩
        · rw [show decide ((y:Int)-(x:Int)<50)=false from decide_eq_false oM]
          rw [if_neg h50]at hr
          repeat (first|refine sr ?_|refine qb fun bx=>?_)
          ((refine A2u [15,17] [0,1,2,3,4,5,6,7,8,9,10,11,12,13,14,15,16,17] A1w rfl kR ?_);(repeat (refine ss ?_));(refine A0v tab (k-1) rfl rfl rfl kR rfl rfl (by first|rfl|omega) rfl rfl oM ?_);(refine A1q tab rfl rfl rfl kR rfl ib (hD1.read oM) ?_);(repeat (refine ss ?_));(refine A0v tab (k) rfl rfl rfl kR rfl rfl (by first|rfl|omega) rfl rfl oM ?_);(refine A1q tab rfl rfl rfl kR rfl ib (hD1.read oM) ?_);(refine A0v tab (k) rfl rfl rfl kR rfl rfl (by first|rfl|omega) rfl rfl oM ?_);(refine S_do kR (A1j tab rfl rfl rfl rfl rfl rfl rfl ib (hD1.off oM) sb ⟨Le.refl _,kp,?_⟩));(refine A0v tab (k-1) rfl rfl rfl kR rfl rfl (by first|rfl|omega) rfl rfl oM ?_);(refine S_do kR (A1j tab rfl rfl rfl rfl rfl rfl rfl ib ((hD1.set oM (hD1.ok oM)).off (by first|simpa using oM|(simp;omega))) sb ⟨Le.refl _,kp,?_⟩));(repeat (refine ss ?_)))
          repeat (first|refine sr ?_|refine qb fun bx=>?_)
          have hD2:=hD1.swp (i:=k) (j:=k-1) oM oM
          have hs2:(swp d1 k (k-1)).size=d.size:=by rw [Go.Sort.size_swp,hs1]
          refine A6f (fun τ w=>w=v∧∃(d2:Array Wl) (c2:Array Value),τ=⟨[],[(9,natV k),(10,natV (5-(s+1))),(0,slV b d.size cap),(1,natV x),(2,natV y),(3,cmV P F wa wn wc)],[(b,c2,102)]⟩∧DB P cap d2 c2∧d2.size=d.size∧d2=fixDown (ltW P) x k (swp d1 k (k-1))) ?hc2 ?hs2
          case hs2=>
            refine A5o ?_
            repeat (first|refine sr ?_|refine qb fun bx=>?_)
            by_cases h2:k-x≥2
            · rw [show decide ((k:Int)-(x:Int)≥2)=true from decide_eq_true oM]
              repeat (first|refine sr ?_|refine qb fun bx=>?_)
              refine A1o (α:=AS) (fun z=>⟨[],[(11,natV z.1),(9,natV k),(10,natV (5-(s+1))),(0,slV b d.size cap),(1,natV x),(2,natV y),(3,cmV P F wa wn wc)],[(b,z.2.2,102)]⟩)
                (fun z w=>w=v∧DB P cap z.2.1 z.2.2∧z.2.1.size=d.size∧z.1<k∧shiftDown (ltW P) z.1 z.2.1=fixDown (ltW P) x k (swp d1 k (k-1))) (fun z=>z.1) (k-1,swp d1 k (k-1),A1l (A1l c1 (0+(k)*2) (wlV d1[k-1]!).cells.toList) (0+(k-1)*2) (wlV d1[k]!).cells.toList)
                ⟨rfl,?_,cntL⟩ (Le.refl _) ⟨rfl,hD2,hs2,by simp only;omega,by unfold fixDown;rw [if_pos h2]⟩ ?_
              · refine⟨?_,rg⟩
                show some (Value.int .i64 ((k:Int)-1))=some (Value.int .i64 ((k-1:Nat):Int))
                congr 2;omega
              rintro⟨j,d3,c3⟩ v ⟨rfl,hD3,hs3,hjk,hr3⟩
              simp only at hD3 hs3 hjk hr3
              dsimp only
              refine A5o ?_
              repeat (first|refine sr ?_|refine qb fun bx=>?_)
              cases j with
              | zero=>
                rw [show decide (((0:Nat):Int)≥1)=false from rfl]
                repeat (first|refine sr ?_|refine qb fun bx=>?_)
                exact A0c ⟨_,v,⟨rfl,d3,c3,rfl,hD3,hs3,hr3⟩,⟨rfl,rg,cntL⟩,Le.refl _⟩
              | succ j=>
                rw [show decide (((j+1:Nat):Int)≥1)=true from decide_eq_true oM]
                rw [show shiftDown (ltW P) (j+1) d3=(if !ltW P d3[j+1]! d3[j]! then d3 else shiftDown (ltW P) j (swp d3 (j+1) j))from rfl]at hr3
                repeat (first|refine st ?_|refine qb fun bx=>?_)
                refine lexL A1w rfl kR ?_
                repeat (first|refine st ?_|refine qb fun bx=>?_)
                refine A2i tab (j+1) rfl rfl rfl rfl oM rfl rfl oM ?_
                refine A1y tab rfl rfl rfl InB.head (hD3.read oM) ?_
                repeat (first|refine st ?_|refine qb fun bx=>?_)
                refine A2i tab j rfl rfl rfl rfl oM rfl rfl oM ?_
                refine A1y tab rfl rfl rfl InB.head (hD3.read oM) ?_
                repeat (first|refine st ?_|refine qb fun bx=>?_)
                refine A3r A5i rfl rfl rfl rfl rfl (A2s hP (hD3.ok oM) (hD3.ok oM)) ?_
                repeat (first|refine st ?_|refine qb fun bx=>?_)
                cases hlt:ltW P d3[j+1]! d3[j]! with
                | true=>
                  rw [show decide (cmpW P d3[j+1]! d3[j]! < 0)=true from hlt]
                  rw [if_neg (by rw [hlt];simp)]at hr3
                  repeat (first|refine sr ?_|refine qb fun bx=>?_)
                  ((refine A2u [15,17] [0,1,2,3,4,5,6,7,8,9,10,11,12,13,14,15,16,17] A1w rfl kR ?_);(repeat (refine ss ?_));(refine A0v tab (j) rfl rfl rfl kR rfl rfl (by first|rfl|omega) rfl rfl oM ?_);(refine A1q tab rfl rfl rfl kR rfl ib (hD3.read oM) ?_);(repeat (refine ss ?_));(refine A0v tab (j+1) rfl rfl rfl kR rfl rfl (by first|rfl|omega) rfl rfl oM ?_);(refine A1q tab rfl rfl rfl kR rfl ib (hD3.read oM) ?_);(refine A0v tab (j+1) rfl rfl rfl kR rfl rfl (by first|rfl|omega) rfl rfl oM ?_);(refine S_do kR (A1j tab rfl rfl rfl rfl rfl rfl rfl ib (hD3.off oM) sb ⟨Le.refl _,kp,?_⟩));(refine A0v tab (j) rfl rfl rfl kR rfl rfl (by first|rfl|omega) rfl rfl oM ?_);(refine S_do kR (A1j tab rfl rfl rfl rfl rfl rfl rfl ib ((hD3.set oM (hD3.ok oM)).off (by first|simpa using oM|(simp;omega))) sb ⟨Le.refl _,kp,?_⟩));(repeat (refine ss ?_)))
                  repeat (first|refine sr ?_|refine qb fun bx=>?_)
                  refine A0c ⟨(j,swp d3 (j+1) j,_),v,by simp only;omega,⟨rfl,?_,cntL⟩,Le.refl _,rfl,hD3.swp oM oM,by rw [Go.Sort.size_swp,hs3],by simp only;omega,hr3⟩
                  refine⟨?_,rg⟩
                  show some (Value.int .i64 (((j+1:Nat):Int)-1))=some (Value.int .i64 (j:Int))
                  congr 2;omega
                | false=>
                  rw [show decide (cmpW P d3[j+1]! d3[j]! < 0)=false from hlt]
                  rw [if_pos (by rw [hlt];rfl)]at hr3
                  repeat (first|refine sr ?_|refine qb fun bx=>?_)
                  exact A0c ⟨_,v,⟨rfl,d3,c3,rfl,hD3,hs3,hr3⟩,⟨rfl,rg,cntL⟩,Le.refl _⟩
            · rw [show decide ((k:Int)-(x:Int)≥2)=false from decide_eq_false oM]
              repeat (first|refine sr ?_|refine qb fun bx=>?_)
              exact A0c ⟨_,v,⟨rfl,swp d1 k (k-1),A1l (A1l c1 (0+(k)*2) (wlV d1[k-1]!).cells.toList) (0+(k-1)*2) (wlV d1[k]!).cells.toList,rfl,hD2,hs2,by unfold fixDown;rw [if_neg h2]⟩,⟨rfl,rg,cntL⟩,Le.refl _⟩
          clear hD2 hs2
          rintro _ v ⟨rfl,d2,c2,rfl,hD2,hs2,hd2⟩
          rw [←hd2]at hr
          repeat (first|refine sr ?_|refine qb fun bx=>?_)
          by_cases h2:y-k≥2
          · rw [show decide ((y:Int)-(k:Int)≥2)=true from decide_eq_true oM]
            repeat (first|refine sr ?_|refine qb fun bx=>?_)
            refine A1o (α:=AS) (fun z=>⟨[],[(12,natV z.1),(9,natV k),(10,natV (5-(s+1))),(0,slV b d.size cap),(1,natV x),(2,natV y),(3,cmV P F wa wn wc)],[(b,z.2.2,102)]⟩)
              (fun z w=>w=v∧DB P cap z.2.1 z.2.2∧z.2.1.size=d.size∧k<z.1∧shiftUp (ltW P) y z.1 z.2.1=fixUp (ltW P) y k d2) (fun z=>y-z.1) (k+1,d2,c2)
              ⟨rfl,rg,cntL⟩ (Le.refl _) ⟨rfl,hD2,hs2,by simp only;omega,by unfold fixUp;rw [if_pos h2]⟩ ?_
            rintro⟨j,d3,c3⟩ v ⟨rfl,hD3,hs3,hjk,hr3⟩
            simp only at hD3 hs3 hjk hr3
            dsimp only
            rw [shiftUp]at hr3
            refine A5o ?_
            repeat (first|refine sr ?_|refine qb fun bx=>?_)
            by_cases hjy:j<y
            · rw [show decide ((j:Int)<(y:Int))=true from decide_eq_true oM]
              rw [if_pos hjy]at hr3
              repeat (first|refine st ?_|refine qb fun bx=>?_)
              refine lexL A1w rfl kR ?_
              repeat (first|refine st ?_|refine qb fun bx=>?_)
              refine A2i tab j rfl rfl rfl rfl oM rfl rfl oM ?_
              refine A1y tab rfl rfl rfl InB.head (hD3.read oM) ?_
              repeat (first|refine st ?_|refine qb fun bx=>?_)
              refine A2i tab (j-1) rfl rfl rfl rfl oM rfl rfl oM ?_
              refine A1y tab rfl rfl rfl InB.head (hD3.read oM) ?_
              repeat (first|refine st ?_|refine qb fun bx=>?_)
              refine A3r A5i rfl rfl rfl rfl rfl (A2s hP (hD3.ok oM) (hD3.ok oM)) ?_
              repeat (first|refine st ?_|refine qb fun bx=>?_)
              cases hlt:ltW P d3[j]! d3[j-1]! with
              | true=>
                rw [show decide (cmpW P d3[j]! d3[j-1]! < 0)=true from hlt]
                rw [if_neg (by rw [hlt];simp)]at hr3
                repeat (first|refine sr ?_|refine qb fun bx=>?_)
                ((refine A2u [15,17] [0,1,2,3,4,5,6,7,8,9,10,11,12,13,14,15,16,17] A1w rfl kR ?_);(repeat (refine ss ?_));(refine A0v tab (j-1) rfl rfl rfl kR rfl rfl (by first|rfl|omega) rfl rfl oM ?_);(refine A1q tab rfl rfl rfl kR rfl ib (hD3.read oM) ?_);(repeat (refine ss ?_));(refine A0v tab (j) rfl rfl rfl kR rfl rfl (by first|rfl|omega) rfl rfl oM ?_);(refine A1q tab rfl rfl rfl kR rfl ib (hD3.read oM) ?_);(refine A0v tab (j) rfl rfl rfl kR rfl rfl (by first|rfl|omega) rfl rfl oM ?_);(refine S_do kR (A1j tab rfl rfl rfl rfl rfl rfl rfl ib (hD3.off oM) sb ⟨Le.refl _,kp,?_⟩));(refine A0v tab (j-1) rfl rfl rfl kR rfl rfl (by first|rfl|omega) rfl rfl oM ?_);(refine S_do kR (A1j tab rfl rfl rfl rfl rfl rfl rfl ib ((hD3.set oM (hD3.ok oM)).off (by first|simpa using oM|(simp;omega))) sb ⟨Le.refl _,kp,?_⟩));(repeat (refine ss ?_)))
                repeat (first|refine sr ?_|refine qb fun bx=>?_)
                refine A0c ⟨(j+1,swp d3 j (j-1),_),v,by simp only;omega,⟨rfl,rg,cntL⟩,Le.refl _,rfl,hD3.swp oM oM,by rw [Go.Sort.size_swp,hs3],by simp only;omega,hr3⟩
              | false=>
                rw [show decide (cmpW P d3[j]! d3[j-1]! < 0)=false from hlt]
                rw [if_pos (by rw [hlt];rfl)]at hr3
                repeat (first|refine sr ?_|refine qb fun bx=>?_)
                exact A0c ⟨_,v,⟨rfl,k,d3,c3,rfl,hD3,hs3,oM,oM,by rw [hr3];exact hr⟩,⟨rfl,rg,cntL⟩,Le.refl _⟩
            · rw [show decide ((j:Int)<(y:Int))=false from decide_eq_false oM]
              rw [if_neg hjy]at hr3
              repeat (first|refine sr ?_|refine qb fun bx=>?_)
              exact A0c ⟨_,v,⟨rfl,k,d3,c3,rfl,hD3,hs3,oM,oM,by rw [hr3];exact hr⟩,⟨rfl,rg,cntL⟩,Le.refl _⟩
          · rw [show decide ((y:Int)-(k:Int)≥2)=false from decide_eq_false oM]
            have e:fixUp (ltW P) y k d2=d2:=by unfold fixUp;rw [if_neg h2]
            rw [e]at hr
            repeat (first|refine sr ?_|refine qb fun bx=>?_)
            exact A0c ⟨_,v,⟨rfl,k,d2,c2,rfl,hD2,hs2,oM,oM,hr⟩,⟨rfl,rg,cntL⟩,Le.refl _⟩
    rintro _ v ⟨rfl,k,d2,c2,rfl,hD2,hs2,hxk,hky,hr2⟩
    repeat (first|refine sr ?_|refine qb fun bx=>?_)
    refine A0c ⟨(k,s,d2,c2),v,by simp only;omega,⟨rfl,?_,cntL⟩,Le.refl _,rfl,hD2,hs2,by simp only;omega,by simp only;omega,by simp only;omega,hr2⟩
    refine⟨rfl,?_,rg⟩
    show some (Value.int .i64 (((5-(s+1):Nat):Int)+1))=some (Value.int .i64 ((5-s:Nat):Int))
    congr 2;omega
end
end Go.Proofs.YtiolobmgibdfmaaGreat
end
section
namespace Go.Proofs.YtiolobmgibdfmaaGreat
open Go Go.Pal Go.Pal.Vo Go.Conc View
open Go.Proofs.Tryz
open Go.Sort (swp PermIn SortedIn Below SWO)
set_option maxHeartbeats 4000000
section
variable{mn:Who}{v:View}{P cap:Nat}
theorem swoW(P:Nat):SWO (ltW P):=⟨B1j P,B3f P,ltW_ntrans P⟩
structure PQ where
  x:Nat
  y:Nat
  lim:Nat
  wb:Bool
  wp:Bool
  d:Array Wl
  c:Array Value
def PdqS(mn:Who)(P cap N:Nat):Prop:=∀{v:View} {d:Array Wl} {c:Array Value} {b x y lim:Nat} {F:Int} {wa:Option Addr} {wn wc:Nat},y-x<N→DB P cap d c→d.size<256→x≤y→y≤d.size→lim<2^30→Below (ltW P) x y d→
  CallsB prog mn 171 #[slV b d.size cap,natV x,natV y,natV lim,cmV P F wa wn wc] (RetB fun r β'=>r = .tuple #[]∧SBox P cap b (fun d'=>d'.size=d.size∧PermIn x y d d'∧SortedIn (ltW P) x y d') β') [(b,c,102)] v
theorem pdq_step(hP:P<8){N:Nat}(IH:PdqS mn P cap N):PdqS mn P cap (N+1):=by
  intro v d c b x y lim F wa wn wc hN hD h256 hxy hy hlim hB
  have hle:=hD.le
  refine A0f tab func171 rfl nB (args:=[_,_,_,_,_]) ?_
  repeat (first|refine sr ?_|refine qb fun bx=>?_)
  refine A1o (α:=PQ) (fun z=>⟨[],[(0,slV b d.size cap),(1,natV z.x),(2,natV z.y),(4,cmV P F wa wn wc),(3,natV z.lim),(10,.bool z.wb),(11,.bool z.wp)],[(b,z.c,102)]⟩)
    (fun z w=>w=v∧DB P cap z.d z.c∧z.d.size=d.size∧x≤z.x∧z.x≤z.y∧z.y≤y∧z.lim<2^30∧Below (ltW P) z.x z.y z.d∧∀R,PermIn z.x z.y z.d R→SortedIn (ltW P) z.x z.y R→PermIn x y d R∧SortedIn (ltW P) x y R) (fun z=>z.y-z.x) ⟨x,y,lim,true,true,d,c⟩
    ⟨rfl,rg,cntL⟩ (Le.refl _) ⟨rfl,hD,rfl,Nat.le_refl _,hxy,Nat.le_refl _,hlim,hB,fun R h1 h2=>⟨h1,h2⟩⟩ ?_
  rintro⟨x1,y1,lim1,wb,wp,d1,c1⟩ v ⟨rfl,hD1,hs1,hx1,hxy1,hy1,hl1,hB1,hR1⟩
  simp only at hD1 hs1 hx1 hxy1 hy1 hl1 hB1 hR1
  dsimp only
  obtain⟨l,hl⟩:∃l,l=y1-x1:=⟨_,rfl⟩
  repeat (first|refine sr ?_|refine qb fun bx=>?_)
  refine A5o ?_
  repeat (first|refine sr ?_|refine qb fun bx=>?_)
  rw [show((y1:Int)-(x1:Int))=(l:Int) by omega]
  by_cases h12:l≤12
  · rw [show decide ((l:Int)≤12)=true from decide_eq_true oM]
    repeat (first|refine sr ?_|refine qb fun bx=>?_)
    refine Q_op fun ho=>A0i [(b,c1,102)] [] ho bod185 rfl rfl rfl rfl rfl cntA (by rw [←hs1];exact insertion_x hP hD1 oM oM oM) (fun x β' hR=>?_)
    clear ho
    obtain⟨rfl,d2,c2,rfl,hD2,hs2,hp2⟩:=hR
    rw [List.append_nil]
    repeat (first|refine sr ?_|refine qb fun bx=>?_)
    refine A0l tab [(b,c2,102)] .nil (Back.here cntL) ?_
    have hh:=Go.Sort.insertionSort_holds (swoW P) d1 x1 y1 hxy1 oM
    rw [←hp2]at hh
    exact⟨rfl,d2,c2,rfl,hD2,oM,hR1 d2 hh.1 hh.2⟩
  rw [show decide ((l:Int)≤12)=false from decide_eq_false oM]
  repeat (first|refine sr ?_|refine qb fun bx=>?_)
  refine A5o ?_
  repeat (first|refine sr ?_|refine qb fun bx=>?_)
  by_cases h0:lim1=0
  · rw [show((lim1:Int)==0)=true from by simp;omega]
    repeat (first|refine sr ?_|refine qb fun bx=>?_)
    refine Q_op fun ho=>A0i [(b,c1,102)] [] ho bod186 rfl rfl rfl rfl rfl cntA (by rw [←hs1];exact heap_x hP hD1 oM oM oM) (fun x β' hR=>?_)
    clear ho
    obtain⟨rfl,d2,c2,rfl,hD2,hs2,hp2⟩:=hR
    rw [List.append_nil]
    repeat (first|refine sr ?_|refine qb fun bx=>?_)
    refine A0l tab [(b,c2,102)] .nil (Back.here cntL) ?_
    have hh:=Go.Sort.heapSort_holds (swoW P) d1 x1 y1 hxy1 oM
    rw [←hp2]at hh
    exact⟨rfl,d2,c2,rfl,hD2,oM,hR1 d2 hh.1 hh.2⟩
  rw [show((lim1:Int)==0)=false from by simp;omega]
  repeat (first|refine sr ?_|refine qb fun bx=>?_)
  -- breakPatterns
  refine A6f (fun τ w=>w=v∧∃(lim2:Nat) (d2:Array Wl) (c2:Array Value),τ=⟨[],[(0,slV b d.size cap),(1,natV x1),(2,natV y1),(4,cmV P F wa wn wc),(3,natV lim2),(10,.bool wb),(11,.bool wp),(12,natV l)],[(b,c2,102)]⟩∧DB P cap d2 c2∧d2.size=d.size∧lim2<2^30∧PermIn x1 y1 d1 d2) ?hc1 ?hs1
  case hs1=>
    refine A5o ?_
    repeat (first|refine sr ?_|refine qb fun bx=>?_)
    cases wb with
    | true=>
      repeat (first|refine sr ?_|refine qb fun bx=>?_)
      exact A0c ⟨_,v,⟨rfl,lim1,d1,c1,rfl,hD1,hs1,hl1,Go.Sort.permIn_refl _ _ _⟩,⟨rfl,rg,cntL⟩,Le.refl _⟩
    | false=>
      repeat (first|refine sr ?_|refine qb fun bx=>?_)
      refine Q_op fun ho=>A0i [(b,c1,102)] [] ho bod187 rfl rfl rfl rfl rfl cntA (by rw [←hs1];exact break_x hD1 oM oM oM oM) (fun x β' hR=>?_)
      clear ho
      obtain⟨rfl,d2,c2,rfl,hD2,hs2,hp2⟩:=hR
      rw [List.append_nil]
      repeat (first|refine sr ?_|refine qb fun bx=>?_)
      refine A0c ⟨_,v,⟨rfl,lim1-1,d2,c2,rfl,hD2,oM,oM,hp2⟩,⟨rfl,?_,cntL⟩,Le.refl _⟩
      refine⟨rfl,rfl,rfl,rfl,?_,rg⟩
      show some (Value.int .i64 ((lim1:Int)-1))=some (Value.int .i64 ((lim1-1:Nat):Int))
      congr 2;omega
  rintro _ v ⟨rfl,lim2,d2,c2,rfl,hD2,hs2,hl2,hp2⟩
  have hB2:=Go.Sort.Below.permA Go.Sort.permIn_all oM hB1 hp2
  repeat (first|refine sr ?_|refine qb fun bx=>?_)
  refine Q_op fun ho=>A0i [(b,c2,102)] [] ho bod188 rfl rfl rfl rfl rfl cntA (by rw [←hs2];exact pivot_x hP hD2 oM oM oM) (fun x β' hR=>?_)
  clear ho
  obtain⟨⟨k,h,hk,hh,rfl⟩,rfl⟩:=hR
  rw [List.append_nil]
  repeat (first|refine sr ?_|refine qb fun bx=>?_)
  -- the hint
  refine A6f (fun τ w=>w=v∧∃(k h:Nat) (d3:Array Wl) (c3:Array Value),τ=⟨[],[(0,slV b d.size cap),(1,natV x1),(2,natV y1),(4,cmV P F wa wn wc),(3,natV lim2),(10,.bool wb),(11,.bool wp),(12,natV l),(13,natV k),(14,natV h)],[(b,c3,102)]⟩∧DB P cap d3 c3∧d3.size=d.size∧(x1≤k∧k<y1)∧PermIn x1 y1 d2 d3) ?hc2 ?hs2
  case hs2=>
    refine A5o ?_
    repeat (first|refine sr ?_|refine qb fun bx=>?_)
    by_cases h2:h=2
    · subst h2
      rw [show(((2:Nat):Int)==2)=true from rfl]
      repeat (first|refine sr ?_|refine qb fun bx=>?_)
      refine Q_op fun ho=>A0i [(b,c2,102)] [] ho bod189 rfl rfl rfl rfl rfl cntA (by rw [←hs2];exact reverse_x hD2 oM oM oM) (fun x β' hR=>?_)
      clear ho
      obtain⟨rfl,d3,c3,rfl,hD3,hp3⟩:=hR
      rw [List.append_nil]
      repeat (first|refine sr ?_|refine qb fun bx=>?_)
      refine A0c ⟨_,v,⟨rfl,y1-1-(k-x1),1,d3,c3,rfl,hD3,by rw [hp3.1];exact hs2,oM,hp3⟩,⟨rfl,?_,cntL⟩,Le.refl _⟩
      refine⟨rfl,rfl,rfl,rfl,rfl,rfl,rfl,rfl,?_,rg⟩
      show some (Value.int .i64 ((y1:Int)-1-((k:Int)-(x1:Int))))=some (Value.int .i64 ((y1-1-(k-x1):Nat):Int))
      congr 2;omega
    · rw [show((h:Int)==2)=false from by simp;omega]
      repeat (first|refine sr ?_|refine qb fun bx=>?_)
      exact A0c ⟨_,v,⟨rfl,k,h,d2,c2,rfl,hD2,hs2,hk,Go.Sort.permIn_refl _ _ _⟩,⟨rfl,rg,cntL⟩,Le.refl _⟩
  clear hk hh h k
  rintro _ v ⟨rfl,k,h,d3,c3,rfl,hD3,hs3,hk,hp3⟩
  have hB3:=Go.Sort.Below.permA Go.Sort.permIn_all oM hB2 hp3
  have hp13:=Go.Sort.permIn_trans _ _ _ _ _ hp2 hp3
  -- partialInsertionSort
  refine A6f (fun τ w=>w=v∧∃(d4:Array Wl) (c4:Array Value),τ=⟨[],[(0,slV b d.size cap),(1,natV x1),(2,natV y1),(4,cmV P F wa wn wc),(3,natV lim2),(10,.bool wb),(11,.bool wp),(12,natV l),(13,natV k)],[(b,c4,102)]⟩∧DB P cap d4 c4∧d4.size=d.size∧PermIn x1 y1 d3 d4) ?hc3 ?hs3
  case hs3=>
    refine A5o ?_
    by_cases hgo:wb=true∧wp=true∧h=1
    · obtain⟨rfl,rfl,rfl⟩:=hgo
      repeat (first|refine sr ?_|refine qb fun bx=>?_)
      refine Q_op fun ho=>A0i [(b,c3,102)] [] ho bod190 rfl rfl rfl rfl rfl cntA (by rw [←hs3];exact partial_x hP hD3 oM oM oM) (fun x β' hR=>?_)
      clear ho
      obtain⟨rfl,d4,c4,rfl,hD4,hs4,hp4⟩:=hR
      rw [List.append_nil]
      have hh:=Go.Sort.partialInsertionSort_holds (swoW P) d3 x1 y1 oM oM hB3
      rw [←hp4]at hh
      cases hb:(Go.Sort.partialInsertionSort (ltW P) d3 x1 y1).2 with
      | true=>
        repeat (first|refine sr ?_|refine qb fun bx=>?_)
        refine A0l tab [(b,c4,102)] .nil (Back.here cntL) ?_
        exact⟨rfl,d4,c4,rfl,hD4,oM,hR1 d4 (Go.Sort.permIn_trans _ _ _ _ _ hp13 hh.1) (hh.2 hb)⟩
      | false=>
        repeat (first|refine sr ?_|refine qb fun bx=>?_)
        exact A0c ⟨_,v,⟨rfl,d4,c4,rfl,hD4,oM,hh.1⟩,⟨rfl,rg,cntL⟩,Le.refl _⟩
    · cases wb with
      | false=>
        repeat (first|refine sr ?_|refine qb fun bx=>?_)
        exact A0c ⟨_,v,⟨rfl,d3,c3,rfl,hD3,hs3,Go.Sort.permIn_refl _ _ _⟩,⟨rfl,rg,cntL⟩,Le.refl _⟩
      | true=>
        cases wp with
        | false=>
          repeat (first|refine sr ?_|refine qb fun bx=>?_)
          exact A0c ⟨_,v,⟨rfl,d3,c3,rfl,hD3,hs3,Go.Sort.permIn_refl _ _ _⟩,⟨rfl,rg,cntL⟩,Le.refl _⟩
        | true=>
          repeat (first|refine sr ?_|refine qb fun bx=>?_)
          have hne:h≠1:=fun e=>hgo ⟨rfl,rfl,e⟩
          rw [show((h:Int)==1)=false from by simp;omega]
          repeat (first|refine sr ?_|refine qb fun bx=>?_)
          exact A0c ⟨_,v,⟨rfl,d3,c3,rfl,hD3,hs3,Go.Sort.permIn_refl _ _ _⟩,⟨rfl,rg,cntL⟩,Le.refl _⟩
  rintro _ v ⟨rfl,d4,c4,rfl,hD4,hs4,hp4⟩
  have hB4:=Go.Sort.Below.permA Go.Sort.permIn_all oM hB3 hp4
  have hp14:=Go.Sort.permIn_trans _ _ _ _ _ hp13 hp4
  clear hB1 hB2 hB3 hp2 hp3 hp4 hp13 hD1 hD2 hD3
  -- partitionEqual?
  refine A6f (fun τ w=>w=v∧τ=⟨[],[(0,slV b d.size cap),(1,natV x1),(2,natV y1),(4,cmV P F wa wn wc),(3,natV lim2),(10,.bool wb),(11,.bool wp),(12,natV l),(13,natV k)],[(b,c4,102)]⟩) ?hc4 ?hs4
  case hs4=>
    refine A5o ?_
    repeat (first|refine sr ?_|refine qb fun bx=>?_)
    refine lexL A1w rfl kR ?_
    repeat (first|refine st ?_|refine qb fun bx=>?_)
    by_cases hx0:0<x1
    · rw [show decide ((x1:Int) > 0)=true from decide_eq_true oM]
      repeat (first|refine st ?_|refine qb fun bx=>?_)
      refine A2i tab (x1-1) rfl rfl rfl rfl oM rfl rfl oM ?_
      refine A1y tab rfl rfl rfl InB.head (hD4.read oM) ?_
      repeat (first|refine st ?_|refine qb fun bx=>?_)
      refine A2i tab k rfl rfl rfl rfl oM rfl rfl oM ?_
      refine A1y tab rfl rfl rfl InB.head (hD4.read oM) ?_
      repeat (first|refine st ?_|refine qb fun bx=>?_)
      refine A3r A5i rfl rfl rfl rfl rfl (A2s hP (hD4.ok oM) (hD4.ok oM)) ?_
      repeat (first|refine st ?_|refine qb fun bx=>?_)
      cases hlt:ltW P d4[x1-1]! d4[k]! with
      | true=>
        rw [show decide (cmpW P d4[x1-1]! d4[k]! < 0)=true from hlt]
        repeat (first|refine sr ?_|refine qb fun bx=>?_)
        exact A0c ⟨_,v,⟨rfl,rfl⟩,⟨rfl,rg,cntL⟩,Le.refl _⟩
      | false=>
        rw [show decide (cmpW P d4[x1-1]! d4[k]! < 0)=false from hlt]
        repeat (first|refine sr ?_|refine qb fun bx=>?_)
        refine Q_op fun ho=>A0i [(b,c4,102)] [] ho bod191 rfl rfl rfl rfl rfl cntA (by rw [←hs4];exact partEq_x hP hD4 oM hk.1 hk.2 oM) (fun x β' hR=>?_)
        clear ho
        obtain⟨rfl,d5,c5,rfl,hD5,hs5,hp5⟩:=hR
        rw [List.append_nil]
        obtain⟨m,hm⟩:∃m,m=(Go.Sort.partitionEqual (ltW P) d4 x1 y1 k).1:=⟨_,rfl⟩
        rw [←hm]
        obtain⟨q1,q2,q3,q4,q5⟩:=Go.Sort.round_eq (swoW P) (Go.Sort.partitionEqual_holds _) hx0 hk.1 hk.2 oM hB4 hlt (mid:=m) (d4:=d5) (by rw [hm,hp5])
        repeat (first|refine sr ?_|refine qb fun bx=>?_)
        refine A0c ⟨⟨m,y1,lim2,wb,wp,d5,c5⟩,v,by simp only;omega,⟨rfl,rg,cntL⟩,Le.refl _,rfl,hD5,by simp only;omega,by simp only;omega,q2,hy1,hl2,q4,fun R r1 r2=>?_⟩
        obtain⟨r3,r4⟩:=q5 R r1 r2
        exact hR1 R (Go.Sort.permIn_trans _ _ _ _ _ hp14 r3) r4
    · rw [show decide ((x1:Int) > 0)=false from decide_eq_false oM]
      repeat (first|refine sr ?_|refine qb fun bx=>?_)
      exact A0c ⟨_,v,⟨rfl,rfl⟩,⟨rfl,rg,cntL⟩,Le.refl _⟩
  rintro _ v ⟨rfl,rfl⟩
  repeat (first|refine sr ?_|refine qb fun bx=>?_)
  refine Q_op fun ho=>A0i [(b,c4,102)] [] ho bod192 rfl rfl rfl rfl rfl cntA (by rw [←hs4];exact part_x hP hD4 oM hk.1 hk.2 oM) (fun x β' hR=>?_)
  clear ho
  obtain⟨rfl,d5,c5,rfl,hD5,hs5,hp5⟩:=hR
  rw [List.append_nil]
  obtain⟨m,hm⟩:∃m,m=(Go.Sort.partition (ltW P) d4 x1 y1 k).1:=⟨_,rfl⟩
  obtain⟨ap,hap⟩:∃ap,ap=(Go.Sort.partition (ltW P) d4 x1 y1 k).2.1:=⟨_,rfl⟩
  rw [←hm,←hap]
  obtain⟨q1,q2,q3,q4,q5,q6,q7⟩:=Go.Sort.round_part (swoW P) (Go.Sort.partition_holds _) hk.1 hk.2 oM hB4 (mid:=m) (d4:=d5) (ap:=ap) (by rw [hm,hap,hp5])
  repeat (first|refine sr ?_|refine qb fun bx=>?_)
  by_cases hlr:m-x1<y1-m
  · rw [show decide ((m:Int)-(x1:Int)<(y1:Int)-(m:Int))=true from decide_eq_true oM]
    repeat (first|refine sr ?_|refine qb fun bx=>?_)
    refine Q_op fun ho=>A0i [(b,c5,102)] [] ho bod171 rfl rfl rfl rfl rfl cntA (by rw [show d.size=d5.size by omega];exact IH (x:=x1) (y:=m) oM hD5 oM q1 oM hl2 q4) (fun x β' hR=>?_)
    clear ho
    obtain⟨rfl,d6,c6,rfl,hD6,hs6,hp6,hso6⟩:=hR
    rw [List.append_nil]
    obtain⟨r1,r2⟩:=q6 d6 hp6 hso6
    repeat (first|refine sr ?_|refine qb fun bx=>?_)
    refine A0c ⟨⟨m+1,y1,lim2,_,ap,d6,c6⟩,v,by simp only;omega,⟨rfl,rg,cntL⟩,Le.refl _,rfl,hD6,by simp only;omega,by simp only;omega,q2,hy1,hl2,r1,fun R t1 t2=>?_⟩
    obtain⟨r3,r4⟩:=r2 R t1 t2
    exact hR1 R (Go.Sort.permIn_trans _ _ _ _ _ hp14 r3) r4
  · rw [show decide ((m:Int)-(x1:Int)<(y1:Int)-(m:Int))=false from decide_eq_false oM]
    repeat (first|refine sr ?_|refine qb fun bx=>?_)
    refine Q_op fun ho=>A0i [(b,c5,102)] [] ho bod171 rfl rfl rfl rfl rfl cntA (by rw [show d.size=d5.size by omega];exact IH (x:=m+1) (y:=y1) oM hD5 oM q2 oM hl2 q5) (fun x β' hR=>?_)
    clear ho
    obtain⟨rfl,d6,c6,rfl,hD6,hs6,hp6,hso6⟩:=hR
    rw [List.append_nil]
    obtain⟨r1,r2⟩:=q7 d6 hp6 hso6
    repeat (first|refine sr ?_|refine qb fun bx=>?_)
    refine A0c ⟨⟨x1,m,lim2,_,ap,d6,c6⟩,v,by simp only;omega,⟨rfl,rg,cntL⟩,Le.refl _,rfl,hD6,by simp only;omega,hx1,q1,by simp only;omega,hl2,r1,fun R t1 t2=>?_⟩
    obtain⟨r3,r4⟩:=r2 R t1 t2
    exact hR1 R (Go.Sort.permIn_trans _ _ _ _ _ hp14 r3) r4
theorem pdq_x(hP:P<8):∀N,PdqS mn P cap N
  | 0=>fun h=>absurd h (Nat.not_lt_zero _)
  | N+1=>pdq_step hP (pdq_x hP N)
end
section
variable{mn:Who}{v:View}{P cap:Nat}{d:Array Wl}{c:Array Value}
theorem sort_x{b:Nat}{F:Int}{wa:Option Addr}{wn wc:Nat}(hP:P<8)(hD:DB P cap d c)(h256:d.size<256) :
    CallsB prog mn 137 #[slV b d.size cap,cmV P F wa wn wc] (RetB fun r β'=>r = .tuple #[]∧SBox P cap b (fun d'=>d'.size=d.size∧PermIn 0 d.size d d'∧SortedIn (ltW P) 0 d.size d') β') [(b,c,102)] v:=by
  refine A0f tab func137 rfl nB (args:=[_,_]) ?_
  repeat (first|refine st ?_|refine qb fun bx=>?_)
  rw [wrapU oM]
  refine Q_op fun ho=>A0s ho bod172 rfl rfl rfl rfl rfl (len_x (x:=d.size) h256) ?_
  clear ho
  repeat (first|refine st ?_|refine qb fun bx=>?_)
  have h8:=(len64_x (mn:=mn) (v:=v) h256).2
  refine Q_op fun ho=>A0i [(b,c,102)] [] ho bod171 rfl rfl rfl rfl rfl cntA (pdq_x hP (d.size+1) (x:=0) oM hD h256 (Nat.zero_le _) (Nat.le_refl _) oM (.inl rfl)) (fun x β' hR=>?_)
  clear ho
  obtain⟨rfl,d2,c2,rfl,hD2,hs2,hp2⟩:=hR
  rw [List.append_nil]
  repeat (first|refine st ?_|refine qb fun bx=>?_)
  refine A1t tab [(b,c2,102)] .nil (Back.here cntL) ?_
  exact⟨rfl,d2,c2,rfl,hD2,hs2,hp2⟩
theorem B2v{P F:Nat}(hP:P≤8)(hF:F≤8){ws:List Wd}{d d':Array Wl}(hn:d.toList.Nodup)(hm:∀w,w∈d.toList↔w∈A2a P F∧can P ws w=true)
    (hp:PermIn 0 d.size d d')(hs:SortedIn (ltW P) 0 d.size d'):d'.toList=A0g P F ws:=by
  have hsz:=hp.1
  have hperm:d'.toList.Perm d.toList:=by
    have:=hp.2.2
    have e1:d'.extract 0 d.size=d':=by rw [←hsz];simp
    have e2:d.extract 0 d.size=d:=by simp
    rwa [e1,e2]at this
  have hn':d'.toList.Nodup:=hperm.nodup_iff.2 hn
  have hm':∀w,w∈d'.toList↔w∈A2a P F∧can P ws w=true:=fun w=>by rw [hperm.mem_iff,hm]
  refine worldsL_eq hP hF ?_ hm'
  refine List.pairwise_iff_getElem.2 fun i j hi hj hij=>?_
  have h1:=hs i j (Nat.zero_le _) hij (by simpa [hsz]using hj)
  rw [getElem!_pos d' i (by simpa using hi),getElem!_pos d' j (by simpa using hj)]at h1
  have hx:=(hm' d'.toList[i]).1 (List.getElem_mem hi)
  have hy:=(hm' d'.toList[j]).1 (List.getElem_mem hj)
  have hne:d'.toList[i]≠d'.toList[j]:=fun e=>by
    exact(List.pairwise_iff_getElem.1 hn' i j hi hj hij) e
  have ht:=tot hP hF hx.1 hy.1 hne
  simp only [Array.getElem_toList]at ht⊢
  rcases ht with ht|ht
  · exact ht
  · rw [h1]at ht;cases ht
end
end Go.Proofs.YtiolobmgibdfmaaGreat
end
section
namespace Go.Proofs.YtiolobmgibdfmaaGreat
open Go Go.Pal Go.Pal.Vo Go.Conc View
open Go.Proofs.Tryz
set_option maxHeartbeats 4000000
section
variable{mn:Who}{v:View}
theorem insertion0_x{f:Value}:CallsB prog mn 185 #[.slice none 0 0,.int .i64 0,.int .i64 0,f] (RetB fun r β'=>r = .tuple #[]∧β'=[]) [] v:=by
  refine A0f tab func185 rfl nB (args:=[_,_,_,_]) ?_
  repeat (first|refine st ?_|refine qb fun bx=>?_)
  refine A1o (α:=Nat) (fun z=>⟨[],[(8,.int .i64 1),(2,.int .i64 0)],[]⟩)
    (fun z u=>u=v) (fun z=>z) 0 ⟨rfl,rg,cntL⟩ (Le.refl _) rfl ?_
  rintro i u rfl
  repeat (first|refine st ?_|refine qb fun bx=>?_)
  refine A1t tab [] .nil (Back.here cntL) ?_
  exact⟨rfl,rfl⟩
theorem pdq0_x{f:Value}{lim:Int}:CallsB prog mn 171 #[.slice none 0 0,.int .i64 0,.int .i64 0,.int .i64 lim,f] (RetB fun r β'=>r = .tuple #[]∧β'=[]) [] v:=by
  refine A0f tab func171 rfl nB (args:=[_,_,_,_,_]) ?_
  repeat (first|refine st ?_|refine qb fun bx=>?_)
  refine A1o (α:=Nat) (fun z=>⟨[],[(0,.slice none 0 0),(1,.int .i64 0),(2,.int .i64 0),(4,f),(3,.int .i64 lim),(10,.bool true),(11,.bool true)],[]⟩)
    (fun z u=>u=v) (fun z=>z) 0 ⟨rfl,rg,cntL⟩ (Le.refl _) rfl ?_
  rintro i u rfl
  repeat (first|refine st ?_|refine qb fun bx=>?_)
  refine Q_op fun ho=>A0i [] [] ho bod185 rfl rfl rfl rfl rfl cntA (insertion0_x) (fun x β' hR=>?_)
  clear ho
  obtain⟨rfl,rfl⟩:=hR
  repeat (first|refine st ?_|refine qb fun bx=>?_)
  refine A0l tab [] .nil (Back.here cntL) ?_
  exact⟨rfl,rfl⟩
theorem sort0_x{f:Value}:CallsB prog mn 137 #[.slice none 0 0,f] (RetB fun r β'=>r = .tuple #[]∧β'=[]) [] v:=by
  refine A0f tab func137 rfl nB (args:=[_,_]) ?_
  repeat (first|refine st ?_|refine qb fun bx=>?_)
  rw [wrapU oM]
  refine Q_op fun ho=>A0s ho bod172 rfl rfl rfl rfl rfl (len_x (x:=0) oM) ?_
  clear ho
  repeat (first|refine st ?_|refine qb fun bx=>?_)
  refine Q_op fun ho=>A0i [] [] ho bod171 rfl rfl rfl rfl rfl cntA (pdq0_x) (fun x β' hR=>?_)
  clear ho
  obtain⟨rfl,rfl⟩:=hR
  repeat (first|refine st ?_|refine qb fun bx=>?_)
  refine A1t tab [] .nil (Back.here cntL) ?_
  exact⟨rfl,rfl⟩
end
end Go.Proofs.YtiolobmgibdfmaaGreat
end
section
namespace Go.Proofs.YtiolobmgibdfmaaGreat
open Go Go.Pal Go.Pal.Vo Go.Conc View
open Go.Proofs.Tryz
open Go.Sort (swp PermIn SortedIn Below SWO)
set_option maxHeartbeats 4000000
theorem FnM_ret{P:Program}{T:Tab P}{fn:Func}{R:Pal.End→A0j→Prop}{ρ:Regs}{β:A0j}{v u:View}{r:Nat}{xs:List Value}(β':A0j)(hur:u r=some (true,.deferred (some [])))(hvr:v r=none)(hvu:v.Le u)(hsub:Subm β' β)
    (h1:ResL T ρ β fn.results.toList xs)(h2:R (.ret (A5l xs)) β'):FnM T fn R v .ret ⟨[{target:=.collected r,args:=#[] }],ρ,β⟩ u:=by
  refine⟨r,rfl,hur,hvr,xs,β',h1,h2,fun hb=>?_⟩
  obtain⟨k1,k2⟩:=Back.le (v:=v) hvu hsub hb
  refine⟨k1,fun b x hx=>?_⟩
  have h3:=k2 b x hx
  unfold View.set
  by_cases e:b=r
  · subst e
    exfalso
    have h4:A0e β b=none:=A4e hb hur
    have h5:=(A8q hsub hb.nodup).2
    unfold View.union at hx
    rw [hvr]at hx
    rw [h5 b x hx]at h4
    cases h4
  · rw [if_neg e];exact h3
section
variable{mn:Who}{v:View}
theorem wsC_len(l:List Wl):(wsC l).length=l.length*2:=by
  induction l with
  | nil=>rfl
  | cons w l ih=>rw [show wsC (w::l)=wC w++wsC l from rfl,List.length_append,ih,List.length_cons];simp only [List.length_cons,List.length_nil];omega
theorem wsC_at:∀(l:List Wl) (j:Nat) (hj:j<l.length),(wsC l)[j*2]?=some (u8 l[j].1)∧(wsC l)[j*2+1]?=some (u8 l[j].2)
  | w::l,0,_=>⟨rfl,rfl⟩
  | w::l,j+1,hj=>by
    have ih:=wsC_at l j (by simpa using hj)
    have e:wsC (w::l)=u8 w.1::u8 w.2::wsC l:=rfl
    rw [e,show(j+1)*2=j*2+1+1 by omega]
    simpa using ih
theorem db_of_own{P cap b:Nat}{l:List Wl}{c:Array Value}{a:Option Addr}(h:OwnS 102 2 [(b,c,102)] a l.length cap (wsC l))(hok:∀w∈l,WOk P w):a=some ⟨b,0,none⟩∧DB P cap l.toArray c:=by
  cases h with
  | box h1 h2 h3 h4=>
    refine⟨rfl,h3,by simpa using h2,fun {i} hi=>?_,fun i hi=>?_⟩
    · rw [getElem!_pos l.toArray i hi];exact hok _ sM
    · have hi':i<l.length:=by simpa using hi
      rw [getElem!_pos l.toArray i hi]
      obtain⟨g1,g2⟩:=wsC_at l i hi'
      exact⟨h4 _ _ g1,h4 _ _ g2⟩
theorem B0e{P cap b:Nat}{d:Array Wl}{c:Array Value}(h:DB P cap d c):OwnS 102 2 [(b,c,102)] (some ⟨b,0,none⟩) d.size cap (wsC d.toList):=by
  refine .box (by rw [wsC_len];simp) h.le h.size fun i x hx=>?_
  have hi:=(List.getElem?_eq_some_iff.1 hx).1
  rw [wsC_len]at hi
  have hj:i / 2<d.toList.length:=oM
  obtain⟨g1,g2⟩:=wsC_at d.toList (i / 2) hj
  obtain⟨k1,k2⟩:=h.get (i / 2) (by simpa using hj)
  rw [getElem!_pos d (i / 2) (by simpa using hj)]at k1 k2
  rcases (by omega:i=i / 2*2∨i=i / 2*2+1)with e|e
  · rw [←e]at g1 k1;rw [g1]at hx;cases hx;exact k1
  · rw [←e]at g2 k2;rw [g2]at hx;cases hx;exact k2
theorem own_cases{P n cp:Nat}{seg:A0j}{a:Option Addr}{l:List Wl}(h:OwnS 102 2 seg a n cp (wsC l))(hn:n=l.length)(hok:∀w∈l,WOk P w) :
    (l=[]∧seg=[]∧a=none∧n=0∧cp=0)∨∃b c,seg=[(b,c,102)]∧a=some ⟨b,0,none⟩∧DB P cp l.toArray c:=by
  generalize hcs:wsC l=cs at h
  cases h with
  | nil=>exact .inl ⟨List.length_eq_zero_iff.1 hn.symm,rfl,rfl,rfl,rfl⟩
  | @box b c _ _ _ h1 h2 h3 h4=>
    subst hn hcs
    exact .inr ⟨b,c,rfl,db_of_own (.box h1 h2 h3 h4) hok⟩
theorem every_wok{P F:Nat}{w:Wl}(hF:F≤3)(h:w∈A2a P F):WOk P w:=by
  unfold A2a at h
  obtain⟨t,ht,h⟩:=List.mem_flatMap.1 h
  obtain⟨s,hs,rfl⟩:=List.mem_map.1 h
  rw [List.mem_range]at ht hs
  have h2:2 ^ F≤2^3:=Nat.pow_le_pow_right dM hF
  exact⟨ht,by simp only;omega⟩
theorem B0n{κ:Type}:∀{l:Ents κ} {e:κ×Value×Nat},(l.map (·.2.2)).Nodup→e∈l→(l.find? fun x=>x.2.2==e.2.2)=some e
  | x::l,e,hn,he=>by
    rw [List.map_cons,List.nodup_cons]at hn
    rcases List.mem_cons.1 he with rfl|he
    · rw [List.find?_cons_of_pos sM]
    · rw [List.find?_cons_of_neg,B0n hn.2 he]
      simp only [beq_iff_eq]
      intro h
      exact hn.1 (h ▸ List.mem_map_of_mem (f:=fun x:κ×Value×Nat=>x.2.2) he)
def nthS:Nat→Code→Code
  | 0,c=>c
  | n+1,.seq _ b=>nthS n b
  | _,c=>c
noncomputable def wsTail:Code:=match f80.body with
  | some c=>nthS 9 c
  | none=>.skip
structure TZ where
  done:Ents Wl
  n:Nat
  seg:A0j
  a:Option Addr
  cp:Nat
theorem tail_x{m r bb bca ck P F:Nat}{wa:Option Addr}{wn wc:Nat}{ws:List Wd}{l:Ents Wl}{v v0:View}(hP:P≤4)(hF:F≤3)(hv:v.Le v0)(hvr:v r=none)(hr:v0 r=some (true,.deferred (some [])))
    (hm:v0 m=some (true,mapO wlV l ck))(hk:(l.map (·.1)).Nodup)(hb:(l.map (·.2.2)).Nodup)(hlt:∀e∈l,e.2.2<ck)(hmem:∀w,w∈l.map (·.1)↔w∈A2a P F∧can P ws w=true)(hlen:l.length≤128) :
    XC prog mn none f80.ntmps wsTail (FnM tab f80 (RetB fun x β'=>∃a cap,x = .slice a (A0g P F ws).length cap∧OwnS 102 2 β' a (A0g P F ws).length cap (wsC (A0g P F ws))) v)
      ⟨[{target:=.collected r,args:=#[] }],[(1,.pointer (some ⟨bb,0,none⟩)),(4,.pointer (some ⟨bca,0,none⟩))],[(bca,#[.map (some m)],143),(bb,(boV P F wa wn wc).cells,95)]⟩ v0:=by
  unfold wsTail
  refine A5o ?_
  repeat (first|refine st ?_|refine qb fun bx=>?_)
  refine Q_op fun ho=>A_rangeM tab (val:=wlV) ho rfl rfl rfl rfl hm (fun it hit=>?_)
  clear ho
  repeat (first|refine st ?_|refine qb fun bx=>?_)
  have hmit:m≠it:=by intro e;rw [←e,hm]at hit;cases hit
  have hrit:r≠it:=by intro e;rw [←e,hr]at hit;cases hit
  refine A1o (α:=TZ) (fun z=>⟨[{target:=.collected r,args:=#[] }],[(9,.slice z.a z.n z.cp),(28,.pointer (some ⟨it,0,none⟩)),(1,.pointer (some ⟨bb,0,none⟩))],z.seg++[(bb,(boV P F wa wn wc).cells,95)]⟩)
    (fun z u=>u=v0.set it true (.mapIter (some m) ck (z.done.map (·.2.2)).toArray ck)∧z.n=z.done.length∧OwnS 102 2 z.seg z.a z.n z.cp (wsC (z.done.map (·.1)))∧z.done.Nodup∧z.done ⊆ l) (fun z=>l.length-z.n) ⟨[],0,[],none,0⟩
    ⟨rfl,rg,cntL⟩ (Le.refl _) ⟨rfl,rfl,.nil,List.nodup_nil,by simp⟩ ?_
  rintro⟨done,n,seg,a,cp⟩ u ⟨rfl,hn,hS,hdn,hsub⟩
  simp only at hn hS hdn hsub
  have hnl:done.length≤l.length:=hdn.length_le_of_subset hsub
  dsimp only
  repeat (first|refine st ?_|refine qb fun bx=>?_)
  refine Q_op fun ho=>A_nextM (val:=wlV) ho rfl rfl rfl A5g (by rw [A2v hmit];exact hm) hlt (fun e he hs=>?_) (fun hs=>?_)
  · clear ho
    rw [A6p]
    have hnew:e∉done:=fun h'=>by
      rw [List.contains_toArray]at hs
      have:(done.map (·.2.2)).contains e.2.2=true:=List.contains_iff_mem.2 (List.mem_map_of_mem (f:=fun x:Wl×Value×Nat=>x.2.2) h')
      rw [this]at hs;cases hs
    have hdn':(done++[e]).Nodup:=by
      rw [List.nodup_append]
      refine⟨hdn,by simp,fun x hx y hy=>?_⟩
      rw [List.mem_singleton]at hy
      subst hy
      exact fun h'=>hnew (h' ▸ hx)
    have hsub':done++[e] ⊆ l:=List.append_subset.2 ⟨hsub,by simpa using he⟩
    have hle':=hdn'.length_le_of_subset hsub'
    rw [List.length_append,List.length_singleton]at hle'
    have hfind:=B0n hb he
    obtain⟨w,y,born⟩:=e
    repeat (first|refine st ?_|refine qb fun bx=>?_)
    refine Q_op fun ho=>A_entryM (val:=wlV) (l:=l) (k:=w) (xv:=y) ho rfl rfl rfl A5g (by rw [A2v hmit];exact hm) hfind ?_
    clear ho
    repeat (first|refine st ?_|refine qb fun bx=>?_)
    refine Q_op fun ho=>A3x tab ho rfl rfl rfl rfl rfl rfl rfl rfl rfl (fun b3 c3 hL=>?_)
    clear ho
    refine Q_op fun ho=>A2w tab (xs:=wC w) seg [(b3,c3,102)] [(bx,#[u8 w.1,u8 w.2],102),(bb,(boV P F wa wn wc).cells,95)] ho rfl rfl rfl rfl rfl rfl rfl rfl rfl rfl
      (show ∀p,Pal.cnt p ((b3,c3,102)::(bx,#[u8 w.1,u8 w.2],102)::(seg++[(bb,(boV P F wa wn wc).cells,95)]))=Pal.cnt p (seg++([(b3,c3,102)]++[(bx,#[u8 w.1,u8 w.2],102),(bb,(boV P F wa wn wc).cells,95)]))from cntA) hS
      (fun hb=>RowAt.own hb cntL hL) rfl rfl (by show(2*(n+1)+768)*2≤2^48;omega) oM (fun seg' a' cap' hS'=>?_)
    clear ho
    repeat (first|refine st ?_|refine qb fun bx=>?_)
    refine A0c ⟨⟨done++[(w,y,born)],n+1,seg',a',cap'⟩,_,by simp only;omega,⟨rfl,rg,cntL⟩,Le.refl _,?_,by simp only;simp [hn],?_,hdn',hsub'⟩
    · simp
    · simp only [List.map_append,List.map_cons,List.map_nil]
      refine hS'.cast ?_
      unfold wsC
      rw [List.flatMap_append,List.flatMap_singleton]
  · clear ho
    have hall:l ⊆ done:=fun e he=>by
      have h':=hs e he
      rw [List.contains_toArray,List.contains_iff_mem,List.mem_map]at h'
      obtain⟨e',h1,h2⟩:=h'
      have f1:=B0n hb (hsub h1)
      rw [h2,B0n hb he]at f1
      exact(Option.some.inj f1) ▸ h1
    have hln:l.Nodup:=List.Pairwise.of_map (·.2.2) (fun a b h e=>h (e ▸ rfl)) hb
    have hp:done.Perm l:=(List.perm_ext_iff_of_nodup hdn hln).2 fun x=>⟨fun h=>hsub h,fun h=>hall h⟩
    have hkd:(done.map (·.1)).Nodup:=(hp.map _).nodup_iff.2 hk
    have hmd:∀w,w∈done.map (·.1)↔w∈A2a P F∧can P ws w=true:=fun w=>by rw [(hp.map _).mem_iff,hmem]
    have hvu:v.Le (v0.set it true (.mapIter (some m) ck (done.map (·.2.2)).toArray ck)):=fun b x hx=>by
      have hx':=hv b x hx
      rw [A2v (fun e=>by rw [e,hit]at hx';cases hx')]
      exact hx'
    have hur:(v0.set it true (.mapIter (some m) ck (done.map (·.2.2)).toArray ck)) r=some (true,.deferred (some [])):=by rw [A2v hrit];exact hr
    have hP8:P≤8:=oM
    have hF8:F≤8:=oM
    rcases own_cases hS (by rw [hn,List.length_map]) (fun w hw=>every_wok hF ((hmd w).1 hw).1)with ⟨h1,rfl,rfl,h2,rfl⟩|⟨b,c,rfl,rfl,hD⟩
    · rw [h1]at hkd hmd
      subst h2
      have hres:=B2v (d:=#[]) (d':=#[]) hP8 hF8 hkd hmd (Go.Sort.permIn_refl _ _ _) (fun i j _ _ h=>absurd h sM)
      repeat (first|refine st ?_|refine qb fun bx=>?_)
      refine Q_op fun ho=>A0i [] [(bb,(boV P F wa wn wc).cells,95)] ho bod137 rfl rfl rfl rfl rfl cntA (sort0_x) (fun x β' hR=>?_)
      clear ho
      obtain⟨rfl,rfl⟩:=hR
      repeat (first|refine st ?_|refine qb fun bx=>?_)
      refine FnM_ret [] hur hvr hvu cntL (by exact .tmp rfl .nil) ?_
      rw [←hres]
      exact⟨none,0,rfl,.nil⟩
    · have hsz:(done.map (·.1)).toArray.size=n:=by simp [hn]
      rw [←hsz]
      repeat (first|refine st ?_|refine qb fun bx=>?_)
      refine Q_op fun ho=>A0i [(b,c,102)] [(bb,(boV P F wa wn wc).cells,95)] ho bod137 rfl rfl rfl rfl rfl cntA (sort_x oM hD (by rw [hsz];omega)) (fun x β' hR=>?_)
      clear ho
      obtain⟨rfl,d',c',rfl,hD',hs',hp',hso⟩:=hR
      have hres:=B2v (d:=(done.map (·.1)).toArray) (d':=d') hP8 hF8 hkd hmd hp' hso
      repeat (first|refine st ?_|refine qb fun bx=>?_)
      refine FnM_ret [(b,c',102)] hur hvr hvu cntL (by exact .tmp rfl .nil) ?_
      have hw:=B0e (b:=b) hD'
      rw [hres]at hw
      have hlen':(A0g P F ws).length=d'.size:=by rw [←hres];simp
      rw [hlen']
      refine⟨some ⟨b,0,none⟩,cp,?_,hw⟩
      show Value.slice (some ⟨b,0,none⟩) (done.map (·.1)).toArray.size cp=_
      rw [hs']
end
end Go.Proofs.YtiolobmgibdfmaaGreat
end
section
namespace Go.Proofs.YtiolobmgibdfmaaGreat
open Go Go.Pal Go.Pal.Mu Go.Pal.Vo Go.Conc View
open Go.Proofs.Tryz
set_option maxHeartbeats 4000000
section
variable{v:View}
theorem entsW_len(P F:Nat):(A4i P F (2 ^ P*2 ^ F)).length=2 ^ P*2 ^ F:=by
  unfold A4i
  rw [List.length_map,List.length_zipIdx,List.length_take,A3w];omega
theorem entsW_born(P F n:Nat):((A4i P F n).map (·.2.2)).Nodup:=by
  have:(A4i P F n).map (·.2.2)=((A2a P F).take n).zipIdx.map Prod.snd:=by
    unfold A4i
    rw [List.map_map]
    rfl
  rw [this,List.zipIdx_map_snd]
  exact List.nodup_range'
theorem entsW_get{P F i:Nat}{w:Wl}(h:(A2a P F)[i]?=some w):(w,Value.bool true,i)∈A4i P F (2 ^ P*2 ^ F):=by
  have hi:=(List.getElem?_eq_some_iff.1 h).1
  rw [A3w]at hi
  unfold A4i
  rw [List.mem_map]
  refine⟨(w,i),?_,rfl⟩
  rw [List.mem_iff_getElem?]
  refine⟨i,?_⟩
  rw [List.getElem?_zipIdx,List.getElem?_take_of_lt hi,h]
  simp
def keepW(P F:Nat)(ws:List Wd)(i:Nat):Bool:=match (A2a P F)[i]? with
  | some w=>can P ws w
  | none=>false
def leftW(P F:Nat)(L:List Nat):Ents Wl:=(A4i P F (2 ^ P*2 ^ F)).filter fun e=>decide (e.2.2∉L)
theorem left_mem{P F:Nat}{ws:List Wd}{L:List Nat}(h1:∀a,a<2 ^ P*2 ^ F→keepW P F ws a=false→a∈L)(h2:∀a∈L,a<2 ^ P*2 ^ F∧keepW P F ws a=false)(w:Wl) :
    w∈(leftW P F L).map (·.1)↔w∈A2a P F∧can P ws w=true:=by
  constructor
  · intro h
    obtain⟨e,he,rfl⟩:=List.mem_map.1 h
    obtain⟨h3,h4⟩:=List.mem_filter.1 he
    have h5:=(B3r h3).2
    refine⟨List.mem_of_getElem? h5,?_⟩
    have hi:=(List.getElem?_eq_some_iff.1 h5).1
    rw [A3w]at hi
    have h6:keepW P F ws e.2.2=can P ws e.1:=by unfold keepW;rw [h5]
    cases hc:can P ws e.1 with
    | true=>rfl
    | false=>exact absurd (h1 _ hi (h6.trans hc)) (by simpa using h4)
  · rintro⟨h3,h4⟩
    obtain⟨i,h5⟩:=List.mem_iff_getElem?.1 h3
    refine List.mem_map.2 ⟨(w,.bool true,i),List.mem_filter.2 ⟨entsW_get h5,?_⟩,rfl⟩
    simp only [decide_eq_true_eq]
    intro h6
    have h7:=(h2 i h6).2
    unfold keepW at h7
    rw [h5]at h7
    have h8:can P ws w=false:=h7
    rw [h4]at h8
    cases h8
theorem left_keys(P F:Nat)(L:List Nat):((leftW P F L).map (·.1)).Nodup:=(entsW_keys P F _).sublist (List.filter_sublist.map _)
theorem left_born(P F:Nat)(L:List Nat):((leftW P F L).map (·.2.2)).Nodup:=(entsW_born P F _).sublist (List.filter_sublist.map _)
theorem left_lt{P F:Nat}{L:List Nat}{e:Wl×Value×Nat}(h:e∈leftW P F L):e.2.2<2 ^ P*2 ^ F:=by
  have:=(List.getElem?_eq_some_iff.1 (B3r (List.mem_filter.1 h).1).2).1
  rwa [A3w]at this
theorem left_len{P F:Nat}(hP:P≤4)(hF:F≤3)(L:List Nat):(leftW P F L).length≤128:=by
  have h1:=List.length_filter_le (fun e:Wl×Value×Nat=>decide (e.2.2∉L)) (A4i P F (2 ^ P*2 ^ F))
  rw [entsW_len]at h1
  have h2:2 ^ P≤2^4:=Nat.pow_le_pow_right dM hP
  have h3:2 ^ F≤2^3:=Nat.pow_le_pow_right dM hF
  have h4:2 ^ P*2 ^ F≤2^4*2^3:=Nat.mul_le_mul h2 h3
  exact Nat.le_trans h1 oM
theorem left_nil(P F:Nat):leftW P F []=A4i P F (2 ^ P*2 ^ F):=List.filter_eq_self.2 fun e _=>by simp
theorem row_keep{A:Par}{x V:View}{a:Option Addr}{cs:List Value}(h:RowAt x a cs)(hx:∀b y,x b=some y→V b=some y∧¬(b=A.Mu∨b=A.Wg∨b=A.Cn∨b=A.Cm)):RowAt (A6t A V) a cs:=by
  rcases h with h|⟨b,off,p,c,e,f,h1,h2,h3,h4⟩
  · exact .inl h
  · obtain⟨h5,h6⟩:=hx _ _ h2
    exact .inr ⟨b,off,false,c,e,f,h1,B0k h5 h6,h3,h4⟩
end
end Go.Proofs.YtiolobmgibdfmaaGreat
end
