/- Part 21. -/
import Derived.Test.YtclejblcnfaeaaaGreatDoorPat
set_option linter.all false
section
namespace Go.Proofs.YtclejblcnfaeaaaGreatDoor.W
open Go Go.Pal Go.Pal.To Go.Conc View
open Go.Proofs.Tryz
open Go.Sort (swp PermIn SortedIn Below SWO)
set_option maxHeartbeats 4000000
structure E where
 (am:Option Addr)(cm:Nat)(ab:Option Addr)(cb:Nat)(w:Wy)
instance:Inhabited E:=⟨⟨none,0,none,0,⟨[],[],[]⟩⟩⟩
abbrev SZ:Nat:=5
abbrev cE(e:E):List Value:=wyC e.am e.cm e.ab e.cb e.w
def eV(e:E):Value:=.agg (cE e).toArray
theorem eV_cells(e:E):(eV e).cells.toList=cE e:=rfl
theorem A1f(e:E):(eV e).cells.size=5:=rfl
theorem A1v(e:E):(eV e).cells.toList.all A2k=true:=rfl
attribute [irreducible] eV
abbrev ZT:=List E
def okE(ζ:ZT)(e:E):Prop:=e∈ζ
def zAt(ζ:ZT)(v:View):Prop:=∀e∈ζ,RowAt v e.am (e.w.marks.map intV)∧e.w.marks.length<2^62
theorem zat{ζ:ZT}{u w:View}(h:zAt ζ u)(k:u.Le w:=by first|exact Le.refl _|exact A0g _ _):zAt ζ w:=fun e he=>⟨(h e he).1.le k,(h e he).2⟩
def cmE(_:ZT)(x y:E):Int:=lexZ x.w.marks y.w.marks
def ltE(ζ:ZT)(x y:E):Bool:=decide (cmE ζ x y<0)
abbrev cmV(_:ZT):Value:=.func (.func 165) #[] #[]
theorem swoE(ζ:ZT):SWO (ltE ζ):=by
 have e:∀x y,ltE ζ x y=ltL x.w.marks y.w.marks:=fun x y=>by
  unfold ltE cmE
  rw [←lexZ_lt]
 refine⟨fun x=>?_,fun x y z h1 h2=>?_,fun x y z h1 h2=>?_⟩
 ·rw [e];exact A7k _
 ·rw [e]at h1 h2⊢;exact A6y h1 h2
 ·rw [e]at h1 h2⊢;exact ltL_ntrans h1 h2
structure DBz(ζ:ZT)(cap:Nat)(d:Array E)(c:Array Value):Prop where
 db:DB SZ cE (okE ζ) cap d c
section
variable{mn:Who}{v:View}{cap:Nat}{ζ:ZT}{d:Array E}{c:Array Value}
theorem lexL{P:Program}{rd:Option Nat}{n:Nat}{Q:Exit→St→View→Prop}{ds:List Deferred}{ρ:Regs}{β:A0e}{id:Nat}{ops:Array Oper}{l:List Oper}(hm:P.follows .mixedOrders=true)(hl:ops.toList=l)(hB:(Region.lexB .any ops&&ops.all (fun o=>!A1t o.op))=true)(h:XL P mn n ops Q l ⟨ds,ρ,β⟩ v):XC P mn rd n (.region id ops true) Q ⟨ds,ρ,β⟩ v:=XC_lex hm hl hB h
theorem DBz.rdE(h:DBz ζ cap d c){i:Nat}(hi:i<d.size):A4k tab 175 c (0+i*5)=some (eV d[i]!):=by
 unfold eV
 exact A1g tab Y Y Y (h.db.recd hi)
theorem DBz.le(h:DBz ζ cap d c):d.size≤cap:=h.db.le
theorem DBz.ok(h:DBz ζ cap d c){i:Nat}(hi:i<d.size):okE ζ d[i]!:=h.db.ok hi
theorem DBz.off(h:DBz ζ cap d c){i:Nat}(hi:i<d.size){n:Nat}(hn:n=5):Nat.ble (0+i*5+n) c.size=true:=h.db.off hi hn
theorem DBz.set(h:DBz ζ cap d c){i:Nat}(hi:i<d.size){x:E}(hx:okE ζ x):DBz ζ cap (d.setIfInBounds i x) (A0z c (0+i*5) (eV x).cells.toList):=by
 rw [eV_cells]
 exact⟨h.db.set hi hx⟩
theorem DBz.swp(h:DBz ζ cap d c){i j:Nat}(hi:i<d.size)(hj:j<d.size):DBz ζ cap (Go.Sort.swp d i j) (A0z (A0z c (0+i*5) (eV d[j]!).cells.toList) (0+j*5) (eV d[i]!).cells.toList):=
 (h.set hi (h.ok hj)).set (by simpa using hj) (h.ok hi)
theorem A1z{x y:E}(hP:zAt ζ v)(hx:okE ζ x)(hy:okE ζ y):Ret1 prog mn 165 [eV x,eV y] (.int .i64 (cmE ζ x y)) v:=by
 unfold eV
 obtain⟨am,cm,ab,cb,w⟩:=x
 obtain⟨am',cm',ab',cb',w'⟩:=y
 obtain⟨h1,h2⟩:=hP _ hx
 obtain⟨h3,h4⟩:=hP _ hy
 refine A0d tab func165 Y nB (args:=[_,_]) ?_
 refine sw fun bx=>?_;refine sw fun bx=>?_
 refine Q_op fun ho=>A0u ho bod101 Y Y Y Y Y (A9x h1 h3 h2 h4) ?_
 clear ho
 refine su ?_
 refine A0f tab [] (by exact .tmp rfl .nil) (Back.here cntL) ?_
 exact⟨Y,Y⟩
end
end Go.Proofs.YtclejblcnfaeaaaGreatDoor.W
end
section
namespace Go.Proofs.YtclejblcnfaeaaaGreatDoor.W
open Go Go.Pal Go.Conc View
open Go.Proofs.Tryz
open Go.Sort (swp PermIn SortedIn Below SWO)
set_option maxHeartbeats 4000000
abbrev tE:Nat:=175
abbrev u164:=func164
abbrev u217:=func217
abbrev u236:=func236
abbrev u237:=func237
abbrev u238:=func238
abbrev u240:=func240
abbrev u241:=func241
abbrev u242:=func242
abbrev u243:=func243
abbrev u247:=func247
abbrev u248:=func248
abbrev u249:=func249
abbrev u250:=func250
abbrev w137:=bod137
abbrev w165:=bod165
abbrev w217:=bod217
abbrev w219:=bod219
abbrev w220:=bod220
abbrev w236:=bod236
abbrev w237:=bod237
abbrev w238:=bod238
abbrev w239:=bod239
abbrev w240:=bod240
abbrev w241:=bod241
abbrev w242:=bod242
abbrev w243:=bod243
abbrev w247:=bod247
abbrev w249:=bod249
abbrev w250:=bod250
section
variable{mn:Who}{v:View}{cap:Nat}{ζ:ZT}{d:Array E}{c:Array Value}
abbrev SBox(ζ:ZT)(cap b:Nat)(post:Array E→Prop):A0e→Prop:=fun β'=>∃d' c',β'=[(b,c',tE)]∧DBz ζ cap d' c'∧post d'
abbrev slV(b n cap:Nat):Value:=.slice (some ⟨b,0,none⟩) n cap
theorem zkb_reverse_x{p:Prop}(k:p:=by
 refine A0d tab u240 Y nB (args:=[_,_,_,_]) ?_
 have hle:=hD.le
 refine su ?_
 refine A1q (α:=Int×Nat×Array E×Array Value) (fun z=>⟨[],[(9,.int .i64 z.1),(8,.int .i64 z.2.1),(0,slV b d.size cap)],[(b,z.2.2.2,tE)]⟩)
  (fun z u=>u=v∧DBz ζ cap z.2.2.1 z.2.2.2∧z.2.2.1.size=d.size∧PermIn i0 j0 d z.2.2.1∧i0≤z.2.1∧z.1<j0) (fun z=>(z.1-z.2.1+1).toNat) ((j0:Int)-1,i0,d,c)
  ⟨Y,rg,cntL⟩ (Le.refl _) ⟨Y,hD,Y,Go.Sort.permIn_refl _ _ _,Nat.le_refl _,by simp only;omega⟩ ?_
 rintro⟨jj,i,d1,c1⟩ u ⟨rfl,hD1,hs1,hp1,hi1,hj1⟩
 simp only at hD1 hs1 hp1 hi1 hj1
 dsimp only
 rw [←hs1]
 refine su ?_
 refine A1i Y (fun h=>?_) (fun h=>?_)
 ·replace h:=fa h
  obtain⟨j,rfl⟩:=Int.eq_ofNat_of_zero_le (show(0:Int)≤jj by omega)
  refine su ?_
  ((refine A1d [13,15] [0,1,2,3,4,5,6,7,8,9,10,11,12,13,14,15] A1e Y kR ?_);(repeat (refine ss ?_));(refine A0s tab (j) Y Y Y kR Y Y (by first|rfl|omega) Y Y oM ?_);(refine A1a tab Y Y Y kR Y ib (hD1.rdE oM) ?_);(repeat (refine ss ?_));(refine A0s tab (i) Y Y Y kR Y Y (by first|rfl|omega) Y Y oM ?_);(refine A1a tab Y Y Y kR Y ib (hD1.rdE oM) ?_);(refine A0s tab (i) Y Y Y kR Y Y (by first|rfl|omega) Y Y oM ?_);(refine S_do kR (A1c tab Y Y Y Y Y (by first|exact A1f _|rfl) (by first|exact A1v _|rfl) ib (hD1.off oM Y) sb ⟨Le.refl _,kp,?_⟩));(refine A0s tab (j) Y Y Y kR Y Y (by first|rfl|omega) Y Y oM ?_);(refine S_do kR (A1c tab Y Y Y Y Y (by first|exact A1f _|rfl) (by first|exact A1v _|rfl) ib ((hD1.set oM (hD1.ok oM)).off (by first|simpa using oM|(simp;omega)) Y) sb ⟨Le.refl _,kp,?_⟩));(repeat (refine ss ?_)))
  refine su ?_
  refine A0b ⟨((j:Int)-1,i+1,swp d1 i j,_),u,by simp only;omega,⟨Y,rg,cntL⟩,Le.refl _,Y,hD1.swp oM oM,by rw [Go.Sort.size_swp,hs1],?_,by simp only;omega,by simp only;omega⟩
  exact Go.Sort.permIn_trans _ _ _ _ _ hp1 (Go.Sort.swp_permIn _ _ _ _ _ hi1 oM oM oM oM)
 ·refine su ?_
  refine A1o tab [(b,c1,tE)] .nil (Back.here cntL) ?_
  exact⟨Y,d1,c1,Y,hD1,hp1⟩):p:=k
theorem reverse_x{b i0 j0:Nat}{f:Value}(hD:DBz ζ cap d c)(hcap:d.size<2^30)(hij:i0≤j0)(hj:j0≤d.size) :
  CallsB prog mn 240 #[slV b d.size cap,.int .i64 i0,.int .i64 j0,f] (RetB fun r β'=>r = .tuple #[]∧SBox ζ cap b (fun d'=>PermIn i0 j0 d d') β') [(b,c,tE)] v:=zkb_reverse_x
end
end Go.Proofs.YtclejblcnfaeaaaGreatDoor.W
end
section
namespace Go.Proofs.YtclejblcnfaeaaaGreatDoor.W
open Go Go.Pal Go.Conc View
open Go.Proofs.Tryz
open Go.Sort (swp PermIn SortedIn Below SWO insInner insOuter insertionSort)
set_option maxHeartbeats 4000000
section
variable{mn:Who}{v:View}{cap:Nat}{ζ:ZT}{d:Array E}{c:Array Value}
abbrev AS:=Nat×Array E×Array Value
theorem zkc_insertion_x{p:Prop}(k:p:=by
 refine A0d tab u236 Y nB (args:=[_,_,_,_]) ?_
 have hle:=hD.le
 refine su ?_
 refine A1q (α:=AS) (fun z=>⟨[],[(8,.int .i64 z.1),(0,slV b d.size cap),(1,.int .i64 x),(2,.int .i64 y),(3,cmV ζ)],[(b,z.2.2,tE)]⟩)
  (fun z u=>u=v∧DBz ζ cap z.2.1 z.2.2∧z.2.1.size=d.size∧x<z.1∧z.1≤y+1∧insOuter (ltE ζ) x y z.1 z.2.1=insertionSort (ltE ζ) d x y) (fun z=>y+1-z.1) (x+1,d,c)
  ⟨Y,rg,cntL⟩ (Le.refl _) ⟨Y,hD,Y,by simp only;omega,by simp only;omega,Y⟩ ?_
 rintro⟨i,d1,c1⟩ u ⟨rfl,hD1,hs1,hxi,hiy,hr1⟩
 simp only at hD1 hs1 hxi hiy hr1
 dsimp only
 rw [insOuter]at hr1
 refine su ?_
 refine A1i Y (fun h=>?_) (fun h=>?_)
 ·replace h:=fa h
  rw [if_pos oM]at hr1
  refine su ?_
  refine A1q (α:=AS) (fun z=>⟨[],[(9,.int .i64 z.1),(8,.int .i64 i),(0,slV b d.size cap),(1,.int .i64 x),(2,.int .i64 y),(3,cmV ζ)],[(b,z.2.2,tE)]⟩)
   (fun z w=>w=u∧DBz ζ cap z.2.1 z.2.2∧z.2.1.size=d.size∧z.1≤i∧insInner (ltE ζ) x z.1 z.2.1=insInner (ltE ζ) x i d1) (fun z=>z.1) (i,d1,c1)
   ⟨Y,rg,cntL⟩ (Le.refl _) ⟨Y,hD1,hs1,Nat.le_refl _,Y⟩ ?_
  rintro⟨j,d2,c2⟩ w ⟨rfl,hD2,hs2,hji,hr2⟩
  simp only at hD2 hs2 hji hr2
  dsimp only
  refine su ?_
  refine lexL A1e Y kR ?_
  refine su ?_
  refine A7d Y Y (fun h=>?_) (fun h=>?_)
  ·replace h:=fa h
   obtain⟨j,rfl⟩:∃k,j=k+1:=⟨j-1,oM⟩
   refine su ?_
   refine A1m tab (j+1) Y Y Y Y Y Y Y oM ?_
   refine A1j tab Y Y Y InB.head (hD2.rdE oM) ?_
   refine su ?_
   refine A1m tab j Y Y Y Y oM Y Y oM ?_
   refine A1j tab Y Y Y InB.head (hD2.rdE oM) ?_
   refine su ?_
   refine A2w w165 Y Y Y Y Y (A1z (zat hP) (hD2.ok oM) (hD2.ok oM)) ?_
   refine su ?_
   rw [show insInner (ltE ζ) x (j+1) d2=(if decide (j+1 > x)&&ltE ζ d2[j+1]! d2[j]! then insInner (ltE ζ) x j (swp d2 (j+1) j)else d2)from rfl]at hr2
   refine A1i Y (fun h=>?_) (fun h=>?_)
   ·have h':ltE ζ d2[j+1]! d2[j]! = true:=h
    rw [if_pos (by rw [h'];simp;omega)]at hr2
    refine su ?_
    ((refine A1d [15,17] [0,1,2,3,4,5,6,7,8,9,10,11,12,13,14,15,16,17] A1e Y kR ?_);(repeat (refine ss ?_));(refine A0s tab (j) Y Y Y kR Y Y (by first|rfl|omega) Y Y oM ?_);(refine A1a tab Y Y Y kR Y ib (hD2.rdE oM) ?_);(repeat (refine ss ?_));(refine A0s tab (j+1) Y Y Y kR Y Y (by first|rfl|omega) Y Y oM ?_);(refine A1a tab Y Y Y kR Y ib (hD2.rdE oM) ?_);(refine A0s tab (j+1) Y Y Y kR Y Y (by first|rfl|omega) Y Y oM ?_);(refine S_do kR (A1c tab Y Y Y Y Y (by first|exact A1f _|rfl) (by first|exact A1v _|rfl) ib (hD2.off oM Y) sb ⟨Le.refl _,kp,?_⟩));(refine A0s tab (j) Y Y Y kR Y Y (by first|rfl|omega) Y Y oM ?_);(refine S_do kR (A1c tab Y Y Y Y Y (by first|exact A1f _|rfl) (by first|exact A1v _|rfl) ib ((hD2.set oM (hD2.ok oM)).off (by first|simpa using oM|(simp;omega)) Y) sb ⟨Le.refl _,kp,?_⟩));(repeat (refine ss ?_)))
    refine su ?_
    refine A0b ⟨(j,swp d2 (j+1) j,_),w,by simp only;omega,⟨Y,?_,cntL⟩,Le.refl _,Y,hD2.swp oM oM,by rw [Go.Sort.size_swp,hs2],by simp only;omega,hr2⟩
    refine⟨?_,rg⟩
    show some (Value.int .i64 (((j+1:Nat):Int)-1))=some (Value.int .i64 (j:Int))
    congr 2;omega
   ·have h':ltE ζ d2[j+1]! d2[j]! = false:=h
    rw [if_neg (by rw [h'];simp)]at hr2
    refine su ?_
    refine A0b ⟨(i+1,d2,c2),w,by simp only;omega,⟨Y,rg,cntL⟩,Le.refl _,Y,hD2,hs2,by simp only;omega,by simp only;omega,?_⟩
    rw [hr2];exact hr1
  ·replace h:=fa h
   have hr3:d2=insInner (ltE ζ) x i d1:=by
    rw [←hr2]
    cases j with
    | zero=>rfl
    | succ j=>unfold insInner;rw [if_neg (by simp;omega)]
   refine su ?_
   refine A0b ⟨(i+1,d2,c2),w,by simp only;omega,⟨Y,rg,cntL⟩,Le.refl _,Y,hD2,hs2,by simp only;omega,by simp only;omega,?_⟩
   rw [hr3];exact hr1
 ·replace h:=fa h
  rw [if_neg oM]at hr1
  refine su ?_
  refine A1o tab [(b,c1,tE)] .nil (Back.here cntL) ?_
  exact⟨Y,d1,c1,Y,hD1,hs1,hr1⟩):p:=k
theorem B1w{b x y:Nat}(hP:zAt ζ v)(hD:DBz ζ cap d c)(hcap:d.size<2^30)(hxy:x≤y)(hy:y≤d.size) :
  CallsB prog mn 236 #[slV b d.size cap,.int .i64 x,.int .i64 y,cmV ζ] (RetB fun r β'=>r = .tuple #[]∧SBox ζ cap b (fun d'=>d'.size=d.size∧d'=insertionSort (ltE ζ) d x y) β') [(b,c,tE)] v:=zkc_insertion_x
end
end Go.Proofs.YtclejblcnfaeaaaGreatDoor.W
end
