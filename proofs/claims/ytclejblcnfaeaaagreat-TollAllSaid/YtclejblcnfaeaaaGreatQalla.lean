/- Part 43. -/
import Derived.Test.YtclejblcnfaeaaaGreatPbn
import Derived.Test.YtclejblcnfaeaaaGreatPbo
import Derived.Test.YtclejblcnfaeaaaGreatPbp
set_option linter.all false
section
namespace Go.Proofs.YtclejblcnfaeaaaGreat
open Go Go.Pal Go.Proofs.Tryz
theorem bod17:A0i Tryz.prog 17:=⟨_,_,func17,Y,by decide⟩
theorem bod18:A0i Tryz.prog 18:=⟨_,_,func18,Y,by decide⟩
theorem bod19:A0i Tryz.prog 19:=⟨_,_,func19,Y,by decide⟩
theorem bod20:A0i Tryz.prog 20:=⟨_,_,func20,Y,by decide⟩
theorem bod33:A0i Tryz.prog 33:=⟨_,_,func33,Y,by decide⟩
theorem bod43:A0i Tryz.prog 43:=⟨_,_,func43,Y,by decide⟩
theorem bod44:A0i Tryz.prog 44:=⟨_,_,func44,Y,by decide⟩
theorem bod47:A0i Tryz.prog 47:=⟨_,_,func47,Y,by decide⟩
theorem bod51:A0i Tryz.prog 51:=⟨_,_,func51,Y,by decide⟩
theorem bod58:A0i Tryz.prog 58:=⟨_,_,func58,Y,by decide⟩
theorem bod63:A0i Tryz.prog 63:=⟨_,_,func63,Y,by decide⟩
theorem bod64:A0i Tryz.prog 64:=⟨_,_,func64,Y,by decide⟩
theorem bod80:A0i Tryz.prog 80:=⟨_,_,func80,Y,by decide⟩
theorem bod103:A0i Tryz.prog 103:=⟨_,_,func103,Y,by decide⟩
theorem bod112:A0i Tryz.prog 112:=⟨_,_,func112,Y,by decide⟩
theorem bod114:A0i Tryz.prog 114:=⟨_,_,func114,Y,by decide⟩
theorem bod118:A0i Tryz.prog 118:=⟨_,_,func118,Y,by decide⟩
theorem bod141:A0i Tryz.prog 141:=⟨_,_,func141,Y,by decide⟩
theorem bod142:A0i Tryz.prog 142:=⟨_,_,func142,Y,by decide⟩
theorem bod168:A0i Tryz.prog 168:=⟨_,_,func168,Y,by decide⟩
theorem bod174:A0i Tryz.prog 174:=⟨_,_,func174,Y,by decide⟩
end Go.Proofs.YtclejblcnfaeaaaGreat
end
section
namespace Go.Pal
open Go Go.Conc View
structure KeyT(P:Program)(t:TypeId){κ:Type}[DecidableEq κ](val:κ→Value):Prop where
 eq:∀(a b:κ) {K:Bool→View→Prop} {E:Value→View→Prop} {v:View},K (decide (a=b)) v→SemX P (Op.equal t (val a) (val b)) K E v
 chk:∀(e:Bool) (a:κ) {K:Unit→View→Prop} {E:Value→View→Prop} {v:View},K () v→SemX P (Instr.checkKey e 10000 t (val a)) K E v
 now:∃d,P.underlying t=some d∧((∀a b,Instr.sameNow d (val a) (val b)=none)∨(∀a b,Instr.sameNow d (val a) (val b)=some (decide (a=b))))
 bits:∀a,Instr.sameBits 10000 (val a) (val a)=true
abbrev Ents(κ:Type):=List (κ×Value×Nat)
def B2q{κ:Type}(val:κ→Value)(e:κ×Value×Nat):MapEntry:={key:=val e.1,val:=e.2.1,born:=e.2.2 }
def mapO{κ:Type}(val:κ→Value)(l:Ents κ)(ck:Nat):Obj:=.map (l.map (B2q val)).toArray ck
def B2r{κ:Type}[DecidableEq κ](k:κ):Ents κ→Nat→Option (Nat×Value)
 | [],_=>none
 | e::es,i=>if k=e.1 then some (i,e.2.1)else B2r k es (i+1)
section
variable{κ:Type}[DecidableEq κ]
theorem findE_some{k:κ}:∀{l:Ents κ} {i j:Nat} {x:Value},B2r k l i=some (j,x)→i≤j∧∃b,l[j-i]?=some (k,x,b)
 | [],i,j,x,h=>by cases h
 | e::es,i,j,x,h=>by
  unfold B2r at h
  split at h
  ·rename_i hk
   cases h
   exact⟨Nat.le_refl _,e.2.2,by simp [hk]⟩
  ·obtain⟨h1,b,h2⟩:=findE_some h
   refine⟨oM,b,?_⟩
   rw [show j-i=(j-(i+1))+1 by omega]
   simpa using h2
variable{P:Program}{t:TypeId}{val:κ→Value}{E:Value→View→Prop}{v:View}
theorem B2s(hk:KeyT P t val){k:κ}{K:Option (Nat×Value)→View→Prop}:∀(l:Ents κ) (i:Nat),K (B2r k l i) v→SemX P (Instr.findAsking t (val k) (l.map (B2q val)) i) K E v
 | [],i,h=>h
 | e::es,i,h=>by
  show SemX P (Instr.findAsking t (val k) (B2q val e::es.map (B2q val)) i) K E v
  unfold Instr.findAsking
  rw [A0a]
  refine hk.eq k e.1 ?_
  unfold B2r at h
  by_cases hke:k=e.1
  ·rw [if_pos hke]at h
   simp only [hke,decide_true,if_true]
   exact h
  ·rw [if_neg hke]at h
   simp only [hke,decide_false,Bool.false_eq_true,if_false]
   exact B2s hk es (i+1) h
theorem sx_findKey(hk:KeyT P t val){k:κ}{K:Option (Nat×Value)→View→Prop}{l:Ents κ}(h:K (B2r k l 0) v):SemX P (Instr.findKey t (val k) (l.map (B2q val))) K E v:=by
 obtain⟨d,hd,hn⟩:=hk.now
 unfold Instr.findKey
 rw [A0a,A8c hd]
 rcases hn with hn|hn
 ·cases l with
  | nil=>exact h
  | cons e es=>
   have:Instr.findNow d (val k) ((e::es).map (B2q val)) 0=none:=by
    show Instr.findNow d (val k) (B2q val e::es.map (B2q val)) 0=none
    unfold Instr.findNow
    rw [show(B2q val e).key=val e.1 from Y,hn]
   simp only [this]
   exact B2s hk _ 0 h
 ·have:∀(l:Ents κ) (i:Nat),Instr.findNow d (val k) (l.map (B2q val)) i=some (B2r k l i):=by
   intro l
   induction l with
   | nil=>intro i;rfl
   | cons e es ih=>
    intro i
    show Instr.findNow d (val k) (B2q val e::es.map (B2q val)) i=_
    unfold Instr.findNow B2r
    rw [show(B2q val e).key=val e.1 from Y,hn,ih]
    by_cases hke:k=e.1
    ·simp [hke,B2q]
    ·simp [hke]
  simp only [this]
  exact h
variable(T:Tab P)
theorem sx_mapNew{mt el:TypeId}(hm:T.und mt=some (.map t el))(hk:KeyT P t val){k:κ}{x:Value}{r ck:Nat}{l:Ents κ}{K:Unit→View→Prop}(hv:v r=some (true,mapO val l ck))(hf:B2r k l 0=none)
  (h:K () (v.set r true (mapO val (l++[(k,x,ck)]) (ck+1)))):SemX P (Instr.mapUpdate mt (.map (some r)) (val k) x) K E v:=by
 unfold Instr.mapUpdate
 rw [A0a,A1k T hm]
 rw [A0a]
 refine A9h hv Y Y ?_
 simp only [mapO,A0a]
 refine hk.chk false k ?_
 refine sx_findKey hk ?_
 simp only [hf]
 refine A6t hv Y Y ?_
 have:(List.map (B2q val) l).toArray.push {key:=val k,val:=x,born:=ck }=(List.map (B2q val) (l++[(k,x,ck)])).toArray:=by simp [B2q]
 rw [this]
 exact h
theorem sx_lookup{mt el:TypeId}(hm:T.und mt=some (.map t el))(hk:KeyT P t val){k:κ}{z:Value}(hz:T.zer el=some z){r ck:Nat}{p ok:Bool}{l:Ents κ}{K:Value→View→Prop}(hv:v r=some (p,mapO val l ck))
  (h:K (match B2r k l 0 with|some (_,y)=>(if ok then .tuple #[y,.bool true]else y)|none=>(if ok then .tuple #[z,.bool false]else z)) v):SemX P (Instr.lookup mt (.map (some r)) (val k) ok) K E v:=by
 unfold Instr.lookup
 rw [A0a,A1k T hm]
 rw [A0a]
 refine A9h hv Y Y ?_
 simp only [mapO,A0a,A0h]
 refine hk.chk _ k ?_
 refine sx_findKey hk ?_
 cases hf:B2r k l 0 with
 | none=>
  simp only [hf]at h
  simp only [A0a,A8b T hz]
  cases ok<;>exact h
 | some q=>
  obtain⟨j,y⟩:=q
  simp only [hf]at h
  cases ok<;>exact h
omit [DecidableEq κ]in
theorem sx_makeMap{mt:TypeId}{K:Value→View→Prop}(h:∀r,v r=none→K (.map (some r)) (v.set r true (mapO val [] 0))):SemX P (Instr.makeMap mt none) K E v:=by
 unfold Instr.makeMap
 simp only [A0a]
 intro r hr
 exact h r hr
end
section
variable{P:Program}{mn:Who}(T:Tab P){rd:Option Nat}{n:Nat}{Q:Exit→St→View→Prop}{ds:List Deferred}{ρ:Regs}{β:A0e}{v:View}{K:St→View→Prop}
 {ops:Array Oper}{i:Nat}{d:Nat}{ty:TypeId}{pos:String}{af:Array Edge}{gu:Option (Nat×Bool)}{κ:Type}[DecidableEq κ]{t:TypeId}{val:κ→Value}
omit [DecidableEq κ]in
theorem A_makeMap{mt:TypeId}(val:κ→Value)(ho:ops[i]?=some ⟨some d,.makeMap mt none,ty,pos,af,gu⟩)(hw:A0p ops gu ρ=some true)(hn:Nat.blt d n=true)
  (h:∀r,v r=none→K ⟨ds,(d,.map (some r))::ρ,β⟩ (v.set r true (mapO val [] 0))):XOp P mn rd n ops i Q K ⟨ds,ρ,β⟩ v:=by
 refine A1w ho (A0j hw) (.inr Y) hn fun ev hev hbk=>?_
 simp only [execOp,A0a,Option.map_none]
 refine sx_makeMap (val:=val) fun r hr=>?_
 have hr':v r=none∧A0c β r=none:=by
  unfold View.union at hr
  cases e:v r with
  | none=>rw [e]at hr;exact⟨rfl,hr⟩
  | some x=>rw [e]at hr;cases hr
 obtain⟨h1,h2⟩:=B2f (p:=true) (o:=mapO val [] 0) hbk hr'.2
 exact⟨β,_,⟨h1,h2 ▸ Le.refl _⟩,h r hr'.1⟩
theorem A_mapNew{mt el:TypeId}{x y z:Operand}{k:κ}{xv:Value}{r ck:Nat}{l:Ents κ}(hk:KeyT P t val)(ho:ops[i]?=some ⟨none,.mapUpdate mt x y z,ty,pos,af,gu⟩)(hw:A0p ops gu ρ=some true)(hx:ρ.val x=some (.map (some r)))(hy:ρ.val y=some (val k))(hz:ρ.val z=some xv)
  (hm:T.und mt=some (.map t el))(hv:v r=some (true,mapO val l ck))(hf:B2r k l 0=none)
  (h:K ⟨ds,ρ,β⟩ (v.set r true (mapO val (l++[(k,xv,ck)]) (ck+1)))):XOp P mn rd n ops i Q K ⟨ds,ρ,β⟩ v:=by
 refine A1w ho (A0j hw) (.inr Y) Y fun ev hev hbk=>?_
 simp only [execOp,A0a,hev _ _ hx,hev _ _ hy,hev _ _ hz]
 refine sx_mapNew T hm hk (A2t hv) hf ?_
 obtain⟨h1,h2⟩:=B2f (p:=true) (o:=mapO val (l++[(k,xv,ck)]) (ck+1)) hbk (box_none hbk hv)
 exact⟨β,_,⟨h1,h2 ▸ Le.refl _⟩,h⟩
theorem A_lookup{mt el:TypeId}{x y:Operand}{k:κ}{zv:Value}{r ck:Nat}{p ok:Bool}{l:Ents κ}(hk:KeyT P t val)(ho:ops[i]?=some ⟨some d,.lookup mt x y ok,ty,pos,af,gu⟩)(hw:A0p ops gu ρ=some true)(hn:Nat.blt d n=true)(hx:ρ.val x=some (.map (some r)))(hy:ρ.val y=some (val k))
  (hm:T.und mt=some (.map t el))(hzz:T.zer el=some zv)(hv:v r=some (p,mapO val l ck))
  (h:K ⟨ds,(d,match B2r k l 0 with|some (_,y)=>(if ok then .tuple #[y,.bool true]else y)|none=>(if ok then .tuple #[zv,.bool false]else zv))::ρ,β⟩ v):XOp P mn rd n ops i Q K ⟨ds,ρ,β⟩ v:=by
 refine A1w ho (A0j hw) (.inr Y) hn fun ev hev hbk=>?_
 simp only [execOp,A0a,hev _ _ hx,hev _ _ hy]
 exact sx_lookup T hm hk hzz (A2t hv) ⟨β,v,⟨hbk,Le.refl _⟩,h⟩
end
theorem split_head{bin rest:A0e}:∀p,cnt p (bin++rest)=cnt p (bin++rest):=fun _=>rfl
section
variable{P:Program}{mn:Who}(T:Tab P){u v:View}{n:Nat}{ρ:Regs}{β:A0e}
theorem A6l.mono{k:FuncId}{args:List Value}{R R':Value→View→Prop}(h:A6l P mn k args R v)(hR:∀x u,v.Le u→R x u→R' x u):A6l P mn k args R' v:=
 CallsX.mono h fun e w ⟨x,h1,h2,h3⟩=>⟨w,Le.refl _,x,h1,h2,hR x w h2 h3⟩
end
theorem InB.appA{b:Nat}{c:Array Value}{t:TypeId}{l r:A0e}(h:InB b c t r):InB b c t (List.append l r):=h.app
theorem SetB.appA{b:Nat}{c:Array Value}{l r r':A0e}(h:SetB b c r r'):SetB b c (List.append l r) (l++r'):=h.app
end Go.Pal
end
section
namespace Go.Pal.To
theorem fewest_nil_iff{l:List Wy}:(A1n l).2=[]↔l=[]:=
 ⟨fun h=>Classical.byContradiction fun hn=>(A6a hn).1 h,fun h=>by rw [h];rfl⟩
end Go.Pal.To
end
section
namespace Go.Pal.To
open Go
theorem ow_get{os:List Int}{i:Nat}(h:i<os.length):ow os i=os[i]:=by simp [ow,h]
end Go.Pal.To
end
section
namespace Go.Pal
open Go Go.Conc View
open Go.Sort (swp)
section
variable{E:Type}[Inhabited E]{SZ:Nat}{cl:E→List Value}{okE:E→Prop}{cap:Nat}{d:Array E}{c:Array Value}
theorem DB.swp(h:DB SZ cl okE cap d c){i j:Nat}(hi:i<d.size)(hj:j<d.size):DB SZ cl okE cap (swp d i j) (A0z (A0z c (0+i*SZ) (cl d[j]!)) (0+j*SZ) (cl d[i]!)):=
 (h.set hi (h.ok hj)).set (by simpa using hj) (h.ok hi)
end
end Go.Pal
end
section
namespace Go.Pal.To
theorem bestN_nil{a b:List MA}{d:List Int}(h:A6k a b d=[]):bestN a b d=0:=by
 unfold A6k at h
 unfold bestN
 rw [fewest_nil_iff.1 h];rfl
end Go.Pal.To
end
section
namespace Go.Proofs.YtclejblcnfaeaaaGreat
open Go Go.Pal Go.Conc View
open Go.Proofs.Tryz
set_option maxHeartbeats 4000000
section
variable{mn:Who}
theorem once_x{v:View}{g:Bg}{at':Nat}{β:A0e}(hr:g.ok v)(hB:g.at at' β)(hat:at'<2^62)(n:Nat)(hn:1≤n∧n<2^62) :
  CallsB prog mn 103 #[g.ptr,.int .i64 n] (RetB fun r β'=>(∃x:Bool,r = .bool x)∧g.at (at'+1) β') β v:=by
 refine A0d tab func103 Y nB (args:=[_,_]) ?_
 refine su ?_
 refine Q_op fun ho=>A0o β [] ho bod79 Y Y Y Y Y cntA (by rw [show(n:Int)-1=((n-1:Nat):Int) by omega];exact upTo_x (hr.le (A0g _ _)) hB hat (n-1) oM) (fun x β' hR=>?_)
 obtain⟨⟨x,rfl,hx⟩,hB⟩:=hR
 refine su ?_
 refine A0f tab β' (by exact .tmp rfl .nil) (Back.here cntL) ?_
 exact⟨⟨_,Y⟩,hB⟩
theorem pick_x{v:View}{g:Bg}{at':Nat}{β:A0e}(hr:g.ok v)(hB:g.at at' β)(hat:at'<2^62){a:Option Addr}{cap:Nat}{xs:List Int}(hx:RowAt v a (xs.map (.int .i64)))(hxs:xs.length<2^62)(hne:xs≠[]) :
  CallsB prog mn 80 #[g.ptr,.slice a xs.length cap] (RetB fun r β'=>(∃x,x∈xs∧r = .int .i64 x)∧g.at (at'+1) β') β v:=by
 refine A0d tab func80 Y nB (args:=[_,_]) ?_
 have hpos:0<xs.length:=List.length_pos_iff.2 hne
 obtain⟨bb,off,p,c,e,f,rfl,hv,hc⟩:=hx.ints hpos
 refine su ?_
 refine Q_op fun ho=>A0o β [] ho bod79 Y Y Y Y Y cntA (by rw [show(xs.length:Int)-1=((xs.length-1:Nat):Int) by omega];exact upTo_x (hr.le (A0g _ _)) hB hat (xs.length-1) oM) (fun x β' hR=>?_)
 obtain⟨⟨x,rfl,hx'⟩,hB⟩:=hR
 refine su ?_
 have hlt:x<xs.length:=oM
 refine A6d tab x Y Y Y Y Y Y Y hlt ?_
 refine A2b tab Y Y Y hv (A0l tab Y Y Y (by rw [Nat.mul_one];exact hc _ hlt)) ?_
 refine su ?_
 refine A0f tab β' (by exact .tmp rfl .nil) (Back.here cntL) ?_
 exact⟨⟨_,List.getElem_mem _,Y⟩,hB⟩
end
section
variable{mn:Who}
theorem Mo.ok.le{m:Mo}{u v:View}(h:m.ok u)(hl:u.Le v):m.ok v:=⟨h.row.le hl,h.P,h.len,h.all⟩
theorem ownInts_x{v:View}{a:Option Addr}{cap:Nat}{xs:List Nat}(hx:RowAt v a (xs.map natV))(hl:xs.length<2^30) :
  CallsB prog mn 51 #[.slice a xs.length cap] (RetB fun r β'=>∃a' cap',r = .slice a' xs.length cap'∧OwnS 3 1 β' a' xs.length cap' (xs.map natV)) [] v:=by
 refine A0d tab func51 Y nB (args:=[_]) ?_
 refine su ?_
 refine Q_op fun ho=>A3w tab ho Y Y Y Y Y Y Y Y Y (fun b2 c2 hS=>?_)
 refine su ?_
 refine Q_op fun ho=>A3x tab (xs:=xs.map natV) [(b2,c2,3)] [] [] ho Y Y Y Y Y Y Y Y Y Y (fun _=>rfl) hS
  (fun _=>hx.le (A0g _ _)) sM (by simp [List.all_eq_true,natV,A2k]) oM oM (fun seg a' cap' hS'=>?_)
 refine su ?_
 refine A0f tab seg (by exact .tmp rfl .nil) (Back.here cntL) ?_
 rw [Nat.zero_add]at hS'
 exact⟨a',cap',by show Value.slice a' (0+xs.length) cap'=_;rw [Nat.zero_add],hS'⟩
end
section
variable{mn:Who}{v:View}
theorem modV{x y P:Nat}(hx:x<P)(hy:1≤y∧y≤P-1)(hP:P≤4):(x+y) % P<P∧x≠(x+y) % P:=by
 refine⟨Nat.mod_lt _ oM,fun e=>?_⟩
 by_cases h:x+y<P
 ·rw [Nat.mod_eq_of_lt h]at e;omega
 ·rw [Nat.mod_eq_sub_mod oM,Nat.mod_eq_of_lt oM]at e;omega
theorem remV{a b P:Nat}(hP:0<P)(hP':P<2^62):A6c tab .rem 3 (.int .i64 ((a:Int)+b)) (.int .i64 P)=some (natV ((a+b) % P)):=by
 simp only [A6c,if_true]
 rw [if_neg oM]
 simp only [natV]
 congr 2
theorem row_rest{β bin rest seg:A0e}{e:TypeId}{k:Nat}{a:Option Addr}{len cap:Nat}{cs:List Value}(hb:Bok β v)(hs:∀p,cnt p β=cnt p (bin++rest))(hS:OwnS e k seg a len cap cs)(hsub:Subm seg rest):RowAt (v.union (A0c rest)) a cs:=
 RowAt.own (bok_append.1 (A3v (A2e hs) hb).1).1 hsub hS
theorem actOf_x{g:Bg}{at':Nat}{β:A0e}(hr:g.ok v)(hB:g.at at' β)(hat:at'<2^60){m:Mo}(hm:m.ok v){ao:Option Addr}{co:Nat}{os:List Nat}(hos:RowAt v ao (os.map natV))(hol:os.length=m.dawn.length)(hoa:∀y∈os,y<m.P) :
  CallsB prog mn 20 #[g.ptr,m.val,.slice ao os.length co] (RetB fun r β'=>∃x:MAct,x.ok m.P m.dawn.length∧r=x.val∧∃n,n≤at'+6∧g.at n β') β v:=by
 have hl:=hm.len
 have hP:=hm.P
 refine A0d tab func20 Y nB (args:=[_,_,_]) ?_
 have hmv:m.val = .agg (List.toArray [natV m.P,.slice m.a m.dawn.length m.cap]):=rfl
 rw [hmv]
 refine sw fun bx=>?_;refine sw fun bx=>?_
 rename_i b4
 obtain⟨b6,rfl⟩:∃b:Nat,b=bx:=⟨bx,rfl⟩
 refine Q_front (bin:=β) (by repeat (first|(with_reducible exact split_head)|(with_reducible exact split_headA)|(with_reducible exact A6v)|(with_reducible apply split_cons))) ?_
 refine Q_op fun ho=>A0o β _ ho bod79 Y Y Y Y Y split_head (by rw [show(m.dawn.length:Int)-1=((m.dawn.length-1:Nat):Int) by omega];exact upTo_x (hr.le (A0g _ _)) hB oM (m.dawn.length-1) oM) (fun x β' hR=>?_)
 clear ho
 obtain⟨⟨ah,rfl,hh⟩,hB⟩:=hR
 refine su ?_
 refine Q_op fun ho=>A0o β' _ ho bod79 Y Y Y Y Y split_head (upTo_x (hr.le (A0g _ _)) hB oM 5 oM) (fun x β' hR=>?_)
 clear ho
 obtain⟨⟨k,rfl,hk⟩,hB⟩:=hR
 have hlt:ah<os.length:=oM
 obtain⟨bb,off,p,c,e,f,rfl,hv,hc⟩:=hos.get hlt
 refine su ?_
 refine A1i Y (fun h=>?_) (fun h=>?_)
 ·replace h:=fa h
  refine su ?_
  refine A0f tab β' (xs:=[MAct.val ⟨1,0,0,ah⟩]) (resL_cell tab Y ib Y .nil) (Back.here cntL) ?_
  exact⟨⟨1,0,0,ah⟩,⟨by show 1≤2;omega,by show ah<_;omega,fun _=>⟨Y,Y⟩,⟨by show 0<_;omega,by show 0<_;omega⟩,(fun hh=>by cases hh)⟩,rfl,_,oM,hB⟩
 ·replace h:=fa h
  have hk0:=h
  clear h
  refine su ?_
  refine A1i Y (fun h=>?_) (fun h=>?_)
  ·replace h:=fa h
   have hk1:=h
   clear h
   refine su ?_
   refine A1d [4,14,15,16,19] [0,1,2,3,5,6,7,8,9,10,11,12,13,17,4,14,15,16,18,19] A1e Y kR ?_
   refine su ?_
   refine A0s tab ah Y Y Y kR Y Y Y Y Y hlt ?_
   refine A8v tab Y Y Y kR Y hv (A0l tab Y Y Y (by rw [Nat.mul_one];exact hc _ hlt)) ?_
   refine su ?_
   refine S_do kR (A0o β' _ Y bod79 Y Y Y Y Y split_head (by rw [show(m.P:Int)-1=((m.P-1:Nat):Int) by omega];exact upTo_x (hr.le (A0g _ _)) hB oM (m.P-1) oM) (fun x β' hR=>⟨Le.refl _,?_,?_⟩))
   ·exact kp
   obtain⟨⟨a1,rfl,ha1⟩,hB⟩:=hR
   refine su ?_
   refine S_do kR (A0o β' _ Y bod79 Y Y Y Y Y split_head (by rw [show(m.P:Int)-1=((m.P-1:Nat):Int) by omega];exact upTo_x (hr.le (A0g _ _)) hB oM (m.P-1) oM) (fun x β' hR=>⟨Le.refl _,?_,?_⟩))
   ·exact kp
   obtain⟨⟨a2,rfl,ha2⟩,hB⟩:=hR
   refine su ?_
   refine S_do kR (A3w tab Y Y Y Y Y Y Y Y Y Y (fun b3 c3 hL=>⟨Le.refl _,?_,?_⟩))
   ·exact kp
   refine su ?_
   refine S_do kR (A_bok fun hbk=>A0o β' [(b3,c3,3),(b6,(Value.agg (List.toArray [.int .i64 0,.int .i64 0,.int .i64 0,.int .i64 0])).cells,26),(b4,(Value.agg (List.toArray [natV m.P,.slice m.a m.dawn.length m.cap])).cells,24)] Y bod80 Y Y Y Y Y cntA (pick_x (hr.le (A0g _ _)) hB oM (xs:=[(os[ah]:Int),(a2:Int)]) (row_rest (bin:=β') hbk cntA hL cntL) sM sM) (fun x β' hR=>⟨Le.refl _,?_,?_⟩))
   ·exact kp
   obtain⟨⟨y,hy,rfl⟩,hB⟩:=hR
   have hlt':=hoa _ (List.getElem_mem hlt)
   obtain⟨z,rfl,hz⟩:∃z:Nat,y=z∧z<m.P:=by
    simp only [List.mem_cons,List.not_mem_nil,or_false]at hy
    rcases hy with rfl|rfl
    ·exact⟨_,Y,hlt'⟩
    ·exact⟨_,Y,oM⟩
   refine su ?_
   refine A0f tab β' (xs:=[MAct.val ⟨2,a1,z,ah⟩]) (resL_cell tab Y ib Y .nil) (Back.here cntL) ?_
   exact⟨⟨2,a1,z,ah⟩,⟨Nat.le_refl _,by show ah<_;omega,(fun hh=>by cases hh),⟨by show a1<_;omega,hz⟩,(fun hh=>by cases hh)⟩,rfl,_,oM,hB⟩
  ·replace h:=fa h
   have hk1:=h
   clear h
   refine su ?_
   refine A1d [12,19] [0,1,2,3,4,5,6,7,8,9,10,11,14,15,17,12,13,16,18,19] A1e Y kR ?_
   refine su ?_
   refine A0s tab ah Y Y Y kR Y Y Y Y Y hlt ?_
   refine A8v tab Y Y Y kR Y hv (A0l tab Y Y Y (by rw [Nat.mul_one];exact hc _ hlt)) ?_
   refine su ?_
   refine A0s tab ah Y Y Y kR Y Y Y Y Y hlt ?_
   refine A8v tab Y Y Y kR Y hv (A0l tab Y Y Y (by rw [Nat.mul_one];exact hc _ hlt)) ?_
   refine su ?_
   refine S_do kR (A0o β' _ Y bod78 Y Y Y Y Y split_head (by rw [show(m.P:Int)-1=((m.P-1:Nat):Int) by omega];exact among_x (hr.le (A0g _ _)) hB oM 1 (m.P-1) oM oM) (fun x β' hR=>⟨Le.refl _,?_,?_⟩))
   ·exact kp
   obtain⟨⟨a2,rfl,ha2⟩,hB⟩:=hR
   have hlt':=hoa _ (List.getElem_mem hlt)
   have hmv2:=modV hlt' ha2 hP.2
   refine su ?_
   refine S_pure tab (x:=natV ((os[ah]+a2) % m.P)) Y Y Y kR (remV oM oM) ?_
   refine su ?_
   refine A0f tab β' (xs:=[MAct.val ⟨0,os[ah],(os[ah]+a2) % m.P,ah⟩]) (resL_cell tab Y ib Y .nil) (Back.here cntL) ?_
   exact⟨⟨0,os[ah],(os[ah]+a2) % m.P,ah⟩,⟨by show 0≤2;omega,by show ah<_;omega,(fun hh=>by cases hh),⟨hlt',hmv2.1⟩,fun _=>hmv2.2⟩,rfl,_,oM,hB⟩
end
section
variable{mn:Who}{v:View}
theorem ownS_set1{e:TypeId}{b j len cap:Nat}{c:Array Value}{cs:List Value}(x:Value)(h:OwnS e 1 [(b,c,e)] (some ⟨b,0,none⟩) len cap cs)(hj:j<len):OwnS e 1 [(b,A0z c j [x],e)] (some ⟨b,0,none⟩) len cap (cs.set j x)∧j+1≤c.size:=by
 cases h with
 | box h1 h2 h3 h4=>
  refine⟨.box (by simpa using h1) h2 (by rw [A3l];exact h3) fun i y hy=>?_,oM⟩
  rw [A9b (by simp;omega)]
  rw [List.getElem?_set]at hy
  by_cases hij:j=i
  ·subst hij
   rw [if_pos Y,if_pos oM]at hy
   rw [if_pos ⟨Nat.le_refl _,by simp⟩]
   simpa using hy
  ·rw [if_neg hij]at hy
   rw [if_neg (by simp;omega)]
   exact h4 i y hy
theorem actOf_n{g:Bg}{at':Nat}{β:A0e}(hr:g.ok v)(hB:g.at at' β)(hat:at'<2^60){m:Mo}(hm:m.ok v){ao:Option Addr}{co:Nat}{os:List Nat}(hos:RowAt v ao (os.map natV))(hol:os.length=m.dawn.length)(hoa:∀y∈os,y<m.P) :
  CallsB prog mn 20 #[g.ptr,.agg (List.toArray [natV m.P,.slice m.a m.dawn.length m.cap]),.slice ao m.dawn.length co] (RetB fun r β'=>∃x:MAct,x.ok m.P m.dawn.length∧r=x.val∧∃n,n≤at'+6∧g.at n β') β v:=by
 have:=actOf_x (mn:=mn) (co:=co) hr hB hat hm hos hol hoa
 rw [show(Value.slice ao os.length co) = .slice ao m.dawn.length co by rw [hol]]at this
 exact this
end
end Go.Proofs.YtclejblcnfaeaaaGreat
end
section
namespace Go.Pal.To
theorem mem_waysM{F:List MA→List MA→Wy→List Wy}{a b:List MA}{w u:Wy}{m:Nat}:u∈A2j F a b w m↔∃x a' b',A4g a b m=some (x,a',b')∧refd w.dusk x=false∧u∈F a' b' (w.add m x):=by
 unfold A2j
 cases e:A4g a b m with
 | none=>simp
 | some t=>
  obtain⟨x,a',b'⟩:=t
  simp only
  constructor
  ·intro h
   split at h
   ·cases h
   ·rename_i hr
    exact⟨x,a',b',Y,by simpa using hr,h⟩
  ·rintro⟨y,a2,b2,h1,h2,h3⟩
   cases h1
   rw [if_neg (by simp [h2])]
   exact h3
theorem mem_ways_step{a b:List MA}{w u:Wy}(h:¬(a=[]∧b=[])):u∈ways a b w↔∃m,m<3∧u∈A2j ways a b w m:=by
 rw [A9c h,List.mem_append,List.mem_append]
 constructor
 ·rintro((h|h)|h)
  ·exact⟨0,by decide,h⟩
  ·exact⟨1,by decide,h⟩
  ·exact⟨2,by decide,h⟩
 ·rintro⟨m,hm,h⟩
  have e:m=0∨m=1∨m=2:=oM
  rcases e with rfl|rfl|rfl
  ·exact .inl (.inl h)
  ·exact .inl (.inr h)
  ·exact .inr h
theorem mem_ways:∀{n:Nat} {a b:List MA} {w u:Wy},a.length+b.length≤n→(u∈ways a b w↔∃ms bk dk,W a b w.dusk ms bk dk∧u=⟨w.marks++ms.map (fun k:Nat=>(k:Int)),w.book++bk,dk⟩)
 | n,a,b,w,u,hn=>by
  by_cases e:a=[]∧b=[]
  ·obtain⟨rfl,rfl⟩:=e
   rw [A7z,List.mem_singleton]
   constructor
   ·rintro rfl
    exact⟨[],[],_,.nil,by simp⟩
   ·rintro⟨ms,bk,dk,h,rfl⟩
    cases h with
    | nil=>simp
    | step h1 h2=>unfold A4g at h2;split at h2<;>simp at h2
  ·cases n with
   | zero=>
    exfalso
    apply e
    exact⟨List.length_eq_zero_iff.1 oM,List.length_eq_zero_iff.1 oM⟩
   | succ n=>
    rw [mem_ways_step e]
    constructor
    ·rintro⟨m,hm,h⟩
     obtain⟨x,a',b',h1,h2,h3⟩:=mem_waysM.1 h
     have hl:=A4u h1
     obtain⟨ms,bk,dk,hW,rfl⟩:=(mem_ways (n:=n) oM).1 h3
     exact⟨m::ms,x::bk,dk,.step hm h1 h2 hW,by simp [Wy.add]⟩
    ·rintro⟨ms,bk,dk,h,rfl⟩
     cases h with
     | nil=>exact absurd ⟨rfl,rfl⟩ e
     | @step _ _ a' b' _ _ m x ms bk h1 h2 h3 h4=>
      refine⟨m,h1,mem_waysM.2 ⟨x,a',b',h2,h3,?_⟩⟩
      have hl:=A4u h2
      exact(mem_ways (n:=n) oM).2 ⟨ms,bk,dk,h4,by simp [Wy.add]⟩
def wyOf(ms:List Nat)(bk:List MA)(dk:List Int):Wy:=⟨ms.map (fun k:Nat=>(k:Int)),bk,dk⟩
theorem mem_ways0{a b:List MA}{os:List Int}{u:Wy}:u∈ways a b ⟨[],[],os⟩↔∃ms bk dk,W a b os ms bk dk∧u=wyOf ms bk dk:=by
 rw [mem_ways (Nat.le_refl _)]
 constructor
 ·rintro⟨ms,bk,dk,h,rfl⟩
  exact⟨ms,bk,dk,h,by simp [wyOf]⟩
 ·rintro⟨ms,bk,dk,h,rfl⟩
  exact⟨ms,bk,dk,h,by simp [wyOf]⟩
theorem mem_bests{a b:List MA}{os:List Int}{u:Wy}:u∈A6k a b os↔u∈ways a b ⟨[],[],os⟩∧∀v∈ways a b ⟨[],[],os⟩,lenW u≤lenW v:=by
 unfold A6k
 constructor
 ·intro h
  obtain⟨h1,h2⟩:=A9v h
  have h3:=A6a (l:=ways a b ⟨[],[],os⟩) (by intro e;rw [e]at h1;cases h1)
  exact⟨h1,fun v hv=>by rw [h2];exact h3.2.1 v hv⟩
 ·rintro⟨h1,h2⟩
  have h3:=A6a (l:=ways a b ⟨[],[],os⟩) (by intro e;rw [e]at h1;cases h1)
  obtain⟨v,hv⟩:=List.exists_mem_of_ne_nil _ h3.1
  obtain⟨h4,h5⟩:=A9v hv
  rw [h3.2.2,List.mem_filter]
  refine⟨h1,?_⟩
  have h6:=h2 v h4
  have h7:=h3.2.1 u h1
  simp;omega
theorem W.book_len{a b:List MA}{os dk:List Int}{ms:List Nat}{bk:List MA}(h:W a b os ms bk dk):ms.length=bk.length:=by
 induction h with
 | nil=>rfl
 | step _ _ _ _ ih=>simp [ih]
theorem W.dusk{a b:List MA}{os dk:List Int}{ms:List Nat}{bk:List MA}(h:W a b os ms bk dk):dk=A3z os bk:=by
 induction h with
 | nil=>rfl
 | step _ _ _ _ ih=>exact ih
def okL:List Int→List MA→Bool
 | _,[]=>true
 | os,x::l=>!refd os x&&okL (doN os x) l
theorem W.ok{a b:List MA}{os dk:List Int}{ms:List Nat}{bk:List MA}(h:W a b os ms bk dk):okL os bk=true:=by
 induction h with
 | nil=>rfl
 | step _ _ h3 _ ih=>simp [okL,h3,ih]
theorem stepM_cases{a b a' b':List MA}{m:Nat}{x:MA}(hm:m<3)(h:A4g a b m=some (x,a',b')):(m=0∧a=x::a'∧b=x::b')∨(m=1∧a=x::a'∧b=b')∨(m=2∧a=a'∧b=x::b'):=by
 have e:m=0∨m=1∨m=2:=oM
 rcases e with rfl|rfl|rfl
 ·unfold A4g at h
  simp only at h
  split at h
  ·split at h
   ·rename_i hxy
    cases h
    subst hxy
    exact .inl ⟨Y,Y,Y⟩
   ·cases h
  ·cases h
 ·unfold A4g at h
  simp only at h
  split at h
  ·cases h
   exact .inr (.inl ⟨Y,Y,Y⟩)
  ·cases h
 ·unfold A4g at h
  simp only at h
  split at h
  ·cases h
   exact .inr (.inr ⟨Y,Y,Y⟩)
  ·cases h
theorem stepM_0{x:MA}{a b:List MA}:A4g (x::a) (x::b) 0=some (x,a,b):=by simp [A4g]
theorem stepM_1{x:MA}{a b:List MA}:A4g (x::a) b 1=some (x,a,b):=rfl
theorem stepM_2{x:MA}{a b:List MA}:A4g a (x::b) 2=some (x,a,b):=rfl
theorem W.ge{a b:List MA}{os dk:List Int}{ms:List Nat}{bk:List MA}(h:W a b os ms bk dk):a.length≤ms.length∧b.length≤ms.length∧ms.length≤a.length+b.length:=by
 induction h with
 | nil=>simp
 | step h1 h2 _ _ ih=>rcases stepM_cases h1 h2 with ⟨rfl,rfl,rfl⟩|⟨rfl,rfl,rfl⟩|⟨rfl,rfl,rfl⟩<;>simp at ih⊢<;>omega
end Go.Pal.To
end
section
namespace Go.Pal.To
open Go
def noB:ByteArray:=⟨#[110,111]⟩
theorem B2t:∀{l m:List MA} {os:List Int},okL os (l++m)=(okL os l&&okL (A3z os l) m)
 | [],_,_=>by simp [okL,A3z]
 | x::l,m,os=>by
  show(!refd os x&&okL (doN os x) (l++m))=((!refd os x&&okL (doN os x) l)&&okL (A3z (doN os x) l) m)
  rw [B2t,Bool.and_assoc]
theorem okL_snoc{l:List MA}{x:MA}{os:List Int}:okL os (l++[x])=(okL os l && !refd (A3z os l) x):=by
 rw [B2t];simp [okL]
theorem okL_cut{l:List MA}{os:List Int}{i:Nat}(h:okL os (l.take i)=false):okL os l=false:=by
 rw [←List.take_append_drop i l,B2t,h,Bool.false_and]
theorem repsOf_get:∀{l:List MA} {os:List Int} {i:Nat} (hi:i<l.length),(B0g os l)[i]?=some (B1q (A3z os (l.take i)) l[i])
 | [],_,_,h=>absurd h (Nat.not_lt_zero _)
 | x::l,os,0,_=>rfl
 | x::l,os,i+1,h=>by
  show(B0g (doN os x) l)[i]?=_
  rw [repsOf_get (by simpa using h)]
  rfl
theorem doN_in{P N:Int}{os:List Int}{x:MA}(h:∀o∈os,0≤o∧o<P)(hx:Ok P N x):∀o∈doN os x,0≤o∧o<P:=fun o ho=>by
 unfold doN at ho
 split at ho
 ·rename_i hs
  have hk:x.k=0:=by simp only [sold,Bool.and_eq_true,beq_iff_eq]at hs;exact hs.1
  rcases List.mem_or_eq_of_mem_set ho with h1|rfl
  ·exact h o h1
  ·exact(hx.ab oM).2
 ·exact h o ho
theorem duskOf_in{P N:Int}:∀{l:List MA} {os:List Int},(∀o∈os,0≤o∧o<P)→(∀x∈l,Ok P N x)→∀o∈A3z os l,0≤o∧o<P
 | [],_,h,_=>h
 | x::l,os,h,hl=>duskOf_in (l:=l) (os:=doN os x) (doN_in h (hl x sM)) fun y hy=>hl y (by simp [hy])
theorem reply_no{P:Int}{os:List Int}{x:MA}(hP:P≤4)(h:∀o∈os,0≤o∧o<P)(hx:Ok P os.length x):B1q os x=noB↔refd os x=true:=by
 have hr:=refd_iff (os:=os) (x:=x) hx.h
 have hs:=sold_iff (os:=os) (x:=x) hx.h
 unfold B1q
 by_cases h0:x.k=0
 ·rw [if_pos h0]
  by_cases h1:sold os x=true
  ·rw [if_pos h1]
   constructor
   ·intro e;exact absurd e dM
   ·intro e;exact absurd (hs.1 h1).2 (hr.1 e).2
  ·rw [if_neg h1]
   exact⟨fun _=>hr.2 ⟨h0,fun e=>h1 (hs.2 ⟨h0,e⟩)⟩,fun _=>rfl⟩
 ·rw [if_neg h0]
  have hf:¬refd os x=true:=fun e=>h0 (hr.1 e).1
  by_cases h2:x.k=2
  ·rw [if_pos h2]
   split
   ·exact⟨fun e=>absurd e dM,fun e=>absurd e hf⟩
   ·exact⟨fun e=>absurd e dM,fun e=>absurd e hf⟩
  ·rw [if_neg h2]
   refine⟨fun e=>?_,fun e=>absurd e hf⟩
   exfalso
   have hh:=hx.h
   have hlt:x.h.toNat<os.length:=oM
   have ho:ownH os x.h=os[x.h.toNat]:=ow_get hlt
   have hin:=h _ (List.getElem_mem hlt)
   rw [ho]at e
   generalize os[x.h.toNat]=o at e hin
   have ec:o=0∨o=1∨o=2∨o=3:=oM
   rcases ec with rfl|rfl|rfl|rfl<;>exact absurd e (by decide +kernel)
theorem rep_no{P:Int}{d:List Int}{l:List MA}(hm:MOk P d)(hl:∀x∈l,Ok P d.length x){i:Nat}(hi:i<l.length):B1q (A3z d (l.take i)) l[i]=noB↔refd (A3z d (l.take i)) l[i]=true:=by
 refine reply_no (P:=P) (hm.p.2) (duskOf_in (N:=d.length) hm.all fun x hx=>hl x (List.mem_of_mem_take hx)) ?_
 rw [A9w]
 exact hl _ (List.getElem_mem hi)
end Go.Pal.To
end
section
namespace Go.Proofs.YtclejblcnfaeaaaGreat
open Go Go.Pal Go.Pal.To Go.Conc View
open Go.Proofs.Tryz
set_option maxHeartbeats 4000000
set_option maxRecDepth 20000
section
variable{mn:Who}{v:View}{P:Int}{aD aA:Option Addr}{cD cA:Nat}{d:List Int}{l:List MA}
theorem hold_ok(hd:RowAt v aD (d.map intV))(ha:ActsAt v aA l)(hok:HOk P d l) :
  A6l prog mn 49 [moV P aD d.length cD,.slice aA l.length cA] (fun x u=>∃ar cr ad cd,x = .tuple (List.toArray [.slice ar l.length cr,.slice ad d.length cd,intV 0])∧RowAt u ar ((B0g d l).map .string)∧RowAt u ad ((A3z d l).map intV)) v:=
 A6l.mono (hold_x hd (by have:=hok.m.len;omega) ha (by have:=hok.len;omega)) fun x u hl hx=>by
  obtain⟨ar,cr,ad,cd,h1,h2,h3⟩:=hx
  unfold holdR at h1 h2 h3
  rw [if_neg (by simpa using holdE_ok.2 hok)]at h1 h2 h3
  simp only [repsOf_len,A9w]at h1
  exact⟨ar,cr,ad,cd,h1,h2,h3⟩
def RightAt(d:List Int)(l:List MA)(x:Value)(u:View):Prop:=∃a c,x = .tuple (List.toArray [.bool (okL d l),.slice a d.length c,.bool true])∧RowAt u a ((A3z d l).map intV)
theorem string_ne{s:ByteArray}(t:ByteArray)(h:s≠t):(s.toList==t.toList)=false:=by
 rw [beq_eq_false_iff_ne]
 intro e
 rw [ByteArray.toList_eq,ByteArray.toList_eq]at e
 exact h (bytes_eq e)
theorem right_x(hd:RowAt v aD (d.map intV))(ha:ActsAt v aA l)(hok:HOk P d l) :
  A6l prog mn 43 [moV P aD d.length cD,.slice aA l.length cA] (RightAt d l) v:=by
 have hll:=hok.len
 have hdl:=hok.m.len
 refine A3k tab func43 Y nB (args:=[_,_]) ?_
 refine sw fun bx=>?_
 obtain⟨b2,rfl⟩:∃x:Nat,x=bx:=⟨bx,rfl⟩
 refine Q_op fun ho=>A1p ho bod49 Y Y Y Y Y (hold_ok (cD:=cD) (cA:=cA) hd ha hok) (fun x w hl hx=>?_)
 clear ho
 obtain⟨ar,cr,ad,cd,rfl,h2,h3⟩:=hx
 refine su ?_
 rw [show((l.length:Int) != (l.length:Int))=false from by simp]
 refine su ?_
 rw [show((d.length:Int) != (d.length:Int))=false from by simp]
 refine su ?_
 refine A1q (α:=Nat) (fun i=>⟨[],[(10,.int .i64 i),(7,.slice ar l.length cr),(8,.slice ad d.length cd)],[]⟩)
  (fun i u=>u=w∧i≤l.length∧okL d (l.take i)=true) (fun i=>l.length-i) 0 ⟨Y,rg,cntL⟩ (Le.refl _) ⟨Y,Nat.zero_le _,Y⟩ ?_
 rintro i u ⟨rfl,hi,ht⟩
 refine su ?_
 refine A1i Y (fun h=>?_) (fun h=>?_)
 ·replace h:=fa h
  have hlt:i<l.length:=oM
  have hrn:=rep_no hok.m hok.all hlt
  have hri:i<(B0g d l).length:=by rw [repsOf_len];exact hlt
  obtain⟨b,off,p,c,e,f,rfl,hv,hc⟩:=h2.get hri
  have hci:=hc i hri
  have hg:(B0g d l)[i]=B1q (A3z d (l.take i)) l[i]:=by
   have:=repsOf_get (os:=d) hlt
   rw [List.getElem?_eq_some_iff]at this
   exact this.2
  rw [hg]at hci
  refine su ?_
  refine A6d tab i Y Y Y Y Y Y Y hlt ?_
  refine A2b tab Y Y Y hv (A0l tab Y Y Y (by rw [Nat.mul_one];exact hci)) ?_
  refine su ?_
  have ht':=@okL_snoc (l.take i) l[i] d
  rw [ht,Bool.true_and,←List.take_succ_eq_append_getElem hlt]at ht'
  generalize B1q (A3z d (l.take i)) l[i]=s at hrn
  by_cases hr:s=noB
  ·subst hr
   rw [show(noB.toList==({data:=#[110,111] }:ByteArray).toList)=true from beq_self_eq_true _]
   refine su ?_
   rw [hrn.1 rfl]at ht'
   have hno:=okL_cut ht'
   refine A2m tab (by exact .tmp rfl (.tmp rfl (.tmp rfl .nil))) hl fun _ hl'=>?_
   exact⟨ad,cd,by rw [hno];rfl,h3.le hl'⟩
  ·rw [string_ne ({data:=#[110,111] }:ByteArray) hr]
   refine su ?_
   have hrf:refd (A3z d (l.take i)) l[i]=false:=by
    rw [←Bool.not_eq_true];exact fun e=>hr (hrn.2 e)
   rw [hrf]at ht'
   exact A0b ⟨i+1,u,oM,⟨Y,rg,cntL⟩,Le.refl _,Y,hlt,ht'⟩
 ·replace h:=fa h
  refine su ?_
  have hil:i=l.length:=oM
  subst hil
  rw [List.take_length]at ht
  refine A2m tab (by exact .tmp rfl (.tmp rfl (.tmp rfl .nil))) hl fun _ hl'=>?_
  exact⟨ad,cd,by rw [ht];rfl,h3.le hl'⟩
end
section
variable{mn:Who}{v:View}
def MAct.to(x:MAct):MA:=⟨x.k,x.a,x.b,x.h⟩
theorem cells_to(l:List MAct):(l.map MAct.cells).flatten=((l.map MAct.to).map MA.cells).flatten:=by
 rw [List.map_map];rfl
theorem MAct.ok.to{x:MAct}{P N:Nat}(h:x.ok P N):Ok P N x.to:=by
 obtain⟨k,a,b,hh⟩:=x
 obtain⟨h1,h2,h3,h4,h5⟩:=h
 simp only at h1 h2 h3 h4 h5
 refine⟨?_,⟨Int.natCast_nonneg _,?_⟩,fun e=>?_,fun _=>⟨⟨Int.natCast_nonneg _,?_⟩,⟨Int.natCast_nonneg _,?_⟩⟩,fun e=>?_⟩
 ·simp only [MAct.to];omega
 ·simp only [MAct.to];omega
 ·simp only [MAct.to]at e⊢;have:=h3 oM;omega
 ·simp only [MAct.to];omega
 ·simp only [MAct.to];omega
 ·simp only [MAct.to]at e⊢;have:=h5 oM;omega
theorem nats_of{d:List Int}(h:∀x∈d,0≤x):∃dn:List Nat,d=dn.map fun n:Nat=>(n:Int):=by
 refine⟨d.map Int.toNat,?_⟩
 rw [List.map_map]
 conv=>lhs;rw [←List.map_id d]
 refine List.map_congr_left fun x hx=>?_
 have:=h x hx
 simp only [id_eq,Function.comp_apply];omega
end
end Go.Proofs.YtclejblcnfaeaaaGreat
end
section
namespace Go.Pal
open Go Go.Conc View
def TopQ(t:Nat):Exit→St→View→Prop:=fun e σ _=>e = .ret∧σ.ds=[]∧σ.ρ.get t=some (.bool true)
section
variable{P:Program}{mn:Who}{v:View}
theorem top_run{f:FuncId}{fn:Func}{c:Code}{args:List Value}{t:Nat}(hf:P.funcs[f]?=some fn)(hb:fn.body=some c)(hn:args.length≤fn.ntmps)(h:XC P mn none fn.ntmps c (TopQ t) ⟨[],A2l 0 args,[]⟩ v) :
  Run P mn (AtTop f t) v (G (Frame.enter P f args.toArray .normal) []):=by
 let b:Frame:={fn:=f,tmps:=#[],todo:=[],defers:=[],mode:=.run,kind:=.normal }
 have henter:Frame.enter P f args.toArray .normal=b.on {tmps:=args.toArray++Array.replicate (fn.ntmps-args.toArray.size) undef,defers:=[] } [.code c]:=by
  simp [Frame.enter,Frame.on,hf,hb,b]
 rw [henter]
 have h1:=(h _ (B1y hn) (A4c v)) (AtTop f t) b [] [] (by simp [b]) Y (fun e a' w hQ=>by
  obtain⟨⟨ds',ρ',β'⟩,u,⟨rfl,h1,h2⟩,hf',hb',hl⟩:=hQ
  intro todo
  refine Run.ctl Y (g':=G {b.on a' (.code .ret::todo)with mode:=.returning } []) (fun w=>by simp [G,stepG,stepG.exec,Frame.on,b]) ?_
  exact .stop (Le.refl _) ⟨_,Y,Y,hf'.defers.trans h1,Y,Y,hf'.get _ _ h2⟩)
 rw [A1r]at h1
 exact h1
end
end Go.Pal
end
section
namespace Go.Proofs.YtclejblcnfaeaaaGreat
open Go Go.Pal Go.Conc View
open Go.Proofs.Tryz
set_option maxHeartbeats 4000000
set_option maxRecDepth 20000
section
variable{mn:Who}{v:View}
instance:Inhabited MAct:=⟨⟨0,0,0,0⟩⟩
theorem ownS_set4{b j cap:Nat}{c:Array Value}{l:List MAct}(y:MAct)(h:OwnS 26 4 [(b,c,26)] (some ⟨b,0,none⟩) l.length cap (l.map MAct.cells).flatten)(hj:j<l.length) :
  OwnS 26 4 [(b,A0z c (0+j*4) y.cells,26)] (some ⟨b,0,none⟩) (l.set j y).length cap ((l.set j y).map MAct.cells).flatten∧0+j*4+4≤c.size:=by
 have D:DB 4 MAct.cells (fun _=>True) cap l.toArray c:=DB.of_own (fun _=>rfl) h (fun _ _=>trivial)
 have D2:=((D.set (i:=j) (by simpa using hj) (x:=y) trivial).to_own 26 b dM).1
 refine⟨?_,?_⟩
 ·simpa using D2
 ·exact(D.recd (i:=j) (by simpa using hj)).1
structure TwoS where
 k:Nat
 p:List MAct
 q:List MAct
 os:List Nat
 co:Array Value
 sp:A0e
 ap:Option Addr
 cp:Nat
 sq:A0e
 aq:Option Addr
 cq:Nat
 n:Nat
 βb:A0e
theorem twoOf_x{g:Bg}{at':Nat}{β:A0e}(hr:g.ok v)(hB:g.at at' β)(hat:at'<2^50){m:Mo}(hm:m.ok v){N:Nat}(hN:N≤8) :
    CallsB prog mn 44 #[g.ptr,m.val,.int .i64 N,.bool true] (RetB fun r β'=>∃(p q:List MAct) (ap aq:Option Addr) (cp cq n:Nat) (βb sp sq:A0e),r = .tuple (List.toArray [.slice ap p.length cp,.slice aq q.length cq])∧β'=βb++(sp++sq)∧g.at n βb∧n≤at'+200∧OwnS 26 4 sp ap p.length cp (p.map MAct.cells).flatten∧OwnS 26 4 sq aq q.length cq (q.map MAct.cells).flatten∧
      p.length≤N∧q.length≤N∧(∀y∈p,y.ok m.P m.dawn.length)∧∀y∈q,y.ok m.P m.dawn.length) β v:=by
  have hl:=hm.len
  have hP:=hm.P
  have hw:IntKind.i64.wrap (2*(N:Int))=((2*N:Nat):Int):=by rw [A2d oM oM];omega
  refine A0d tab func44 Y nB (args:=[_,_,_,_]) ?_
  have hmv:m.val = .agg (List.toArray [natV m.P,.slice m.a m.dawn.length m.cap]):=rfl
  rw [hmv]
  refine sw fun bx=>?_
  obtain⟨b4,rfl⟩:∃b:Nat,b=bx:=⟨bx,rfl⟩
  refine Q_op fun ho=>A0o [] _ ho bod51 Y Y Y Y Y A7s (ownInts_x (hm.row.le (A0g _ _)) oM) (fun x β' hR=>?_)
  clear ho
  obtain⟨ao,cao,rfl,hO⟩:=hR
  obtain⟨bo,co,rfl,rfl⟩:∃bo co,ao=some ⟨bo,0,none⟩∧β'=[(bo,co,3)]:=by
    generalize m.dawn.map natV=ll at hO
    generalize hnn:m.dawn.length=nn at hO
    cases hO with
    | nil=>omega
    | box _ _ _ _=>exact⟨_,_,rfl,rfl⟩
  refine su ?_
  refine Q_front (bin:=β) (rest:=[(bo,co,3),(b4,(Value.agg (List.toArray [natV m.P,.slice m.a m.dawn.length m.cap])).cells,24)]) cntA ?_
  refine Q_op fun ho=>A0o β _ ho bod79 Y Y Y Y Y split_head (by rw [hw];exact upTo_x (hr.le (A0g _ _)) hB oM (2*N) oM) (fun x β' hR=>?_)
  clear ho
  obtain⟨⟨k0,rfl,hk0⟩,hB⟩:=hR
  refine su ?_
  refine A1q (α:=TwoS) (fun z=>⟨[],[(13,.int .i64 z.k),(0,g.ptr),(2,.int .i64 N),(3,.bool true),(11,.slice z.ap z.p.length z.cp),(12,.slice z.aq z.q.length z.cq),(10,.slice (some ⟨bo,0,none⟩) m.dawn.length cao),(5,.pointer (some ⟨b4,0,none⟩))],(z.βb++([(bo,z.co,3),(b4,(Value.agg (List.toArray [natV m.P,.slice m.a m.dawn.length m.cap])).cells,24)]++(z.sp++z.sq)))⟩)
    (fun z u=>u=v∧z.p.length≤N∧z.q.length≤N∧z.os.length=m.dawn.length∧(∀y∈z.os,y<m.P)∧OwnS 3 1 [(bo,z.co,3)] (some ⟨bo,0,none⟩) m.dawn.length cao (z.os.map natV)∧OwnS 26 4 z.sp z.ap z.p.length z.cp (z.p.map MAct.cells).flatten∧OwnS 26 4 z.sq z.aq z.q.length z.cq (z.q.map MAct.cells).flatten∧(∀y∈z.p,y.ok m.P m.dawn.length)∧(∀y∈z.q,y.ok m.P m.dawn.length)∧g.at z.n z.βb∧z.n+7*z.k≤at'+1+7*k0) (fun z=>z.k) ⟨k0,[],[],m.dawn,co,[],none,0,[],none,0,at'+1,β'⟩
    ⟨Y,rg,cntL⟩ (Le.refl _) ⟨Y,Nat.zero_le _,Nat.zero_le _,Y,hm.all,hO,.nil,.nil,by simp,by simp,hB,Nat.le_refl _⟩ ?_
  rintro⟨k,p,q,os,co,sp,ap,cp,sq,aq,cq,n,βb⟩ u ⟨rfl,hpN,hqN,hol,hoa,hOw,hSp,hSq,hAp,hAq,hBb,hn⟩
  simp only at hpN hqN hol hoa hOw hSp hSq hAp hAq hBb hn
  dsimp only
  refine su ?_
  refine A1i Y (fun h=>?_) (fun h=>?_)
  · replace h:=fa h
    have hk1:=h
    clear h
    refine su ?_
    refine Q_op fun ho=>A0o βb _ ho bod79 Y Y Y Y Y split_head (upTo_x (hr.le (A0g _ _)) hBb oM 3 oM) (fun x β' hR=>?_)
    clear ho
    obtain⟨⟨x,rfl,hx3⟩,hB1⟩:=hR
    rename A0e=>βc
    refine ru ?_
    refine A6q (fun σ w=>w=u∧(x≠2→p.length<N)∧(x≠1→q.length<N)∧σ=⟨[],[(14,.int .i64 x),(13,.int .i64 k),(0,g.ptr),(2,.int .i64 N),(3,.bool true),(11,.slice ap p.length cp),(12,.slice aq q.length cq),(10,.slice (some ⟨bo,0,none⟩) m.dawn.length cao),(5,.pointer (some ⟨b4,0,none⟩))],(βc++([(bo,co,3),(b4,(Value.agg (List.toArray [natV m.P,.slice m.a m.dawn.length m.cap])).cells,24)]++(sp++sq)))⟩) ?_ ?_
    · rintro σ w ⟨rfl,h2,h1,rfl⟩
      refine su ?_
      refine Q_op fun ho=>A_bok fun hbk=>A0o βc ([(bo,co,3),(b4,(Value.agg (List.toArray [natV m.P,.slice m.a m.dawn.length m.cap])).cells,24)]++(sp++sq)) ho bod20 Y Y Y Y Y split_head (actOf_n (hr.le (A0g _ _)) hB1 oM (hm.le (A0g _ _)) (row_rest (bin:=βc) hbk split_head hOw cntL) hol hoa) (fun x β' hR=>?_)
      clear ho
      obtain⟨y,hy,rfl,n1,hn1,hB2⟩:=hR
      rename A0e=>βe
      have hyh:=hy.h
      have hcell:co[y.h]?=some (natV os[y.h]):=by
        cases hOw with
        | box h1 h2 h3 h4=>exact h4 _ _ (by rw [List.getElem?_map,List.getElem?_eq_getElem oM];rfl)
      refine qu fun bx=>?_
      refine A6q (fun σ w'=>w'=w∧∃(os1:List Nat) (co1:Array Value),os1.length=m.dawn.length∧(∀z∈os1,z<m.P)∧OwnS 3 1 [(bo,co1,3)] (some ⟨bo,0,none⟩) m.dawn.length cao (os1.map natV)∧σ=⟨[],[(15,.pointer (some ⟨bx,0,none⟩)),(14,.int .i64 x),(13,.int .i64 k),(0,g.ptr),(2,.int .i64 N),(3,.bool true),(11,.slice ap p.length cp),(12,.slice aq q.length cq),(10,.slice (some ⟨bo,0,none⟩) m.dawn.length cao),(5,.pointer (some ⟨b4,0,none⟩))],(bx,y.val.cells,26)::(βe++([(bo,co1,3),(b4,(Value.agg (List.toArray [natV m.P,.slice m.a m.dawn.length m.cap])).cells,24)]++(sp++sq)))⟩) ?_ ?_
      · rintro σ w' ⟨rfl,os1,co1,hol1,hoa1,hOw1,rfl⟩
        refine ru ?_
        refine A6q (fun σ w=>w=w'∧∃(p':List MAct) (sp':A0e) (ap':Option Addr) (cp':Nat),p'.length≤N∧OwnS 26 4 sp' ap' p'.length cp' (p'.map MAct.cells).flatten∧(∀y∈p',y.ok m.P m.dawn.length)∧σ=⟨[],[(15,.pointer (some ⟨bx,0,none⟩)),(14,.int .i64 x),(13,.int .i64 k),(0,g.ptr),(2,.int .i64 N),(3,.bool true),(11,.slice ap' p'.length cp'),(12,.slice aq q.length cq),(10,.slice (some ⟨bo,0,none⟩) m.dawn.length cao),(5,.pointer (some ⟨b4,0,none⟩))],(bx,y.val.cells,26)::(βe++([(bo,co1,3),(b4,(Value.agg (List.toArray [natV m.P,.slice m.a m.dawn.length m.cap])).cells,24)]++(sp'++sq)))⟩) ?_ ?_
        · rintro σ w ⟨rfl,p',sp',ap',cp',hp'N,hSp',hAp',rfl⟩
          refine su ?_
          refine A1i Y (fun h=>?_) (fun h=>?_)
          · replace h:=fa h
            refine su ?_
            refine Q_op fun ho=>A3w tab ho Y Y Y Y Y Y Y Y Y (fun b3 c3 hL=>?_)
            clear ho
            refine su ?_
            refine Q_op fun ho=>A3x tab (xs:=y.cells) sq [(b3,c3,26)] ((bx,y.val.cells,26)::(βe++([(bo,co1,3),(b4,(Value.agg (List.toArray [natV m.P,.slice m.a m.dawn.length m.cap])).cells,24)]++sp'))) ho Y Y Y Y Y Y Y Y Y Y cntA hSq
              (fun hb=>RowAt.own hb cntL hL) Y Y (by show(2*(q.length+1)+768)*32≤2^48;omega) oM (fun sq' aq' cq' hS'=>?_)
            clear ho
            refine su ?_
            refine A0b ⟨⟨k-1,p',q++[y],os1,co1,sp',ap',cp',sq',aq',cq',n1,βe⟩,_,by simp only;omega,⟨Y,?_,cntL⟩,Le.refl _,Y,hp'N,by simp only [List.length_append,List.length_singleton];have:=h1 oM;omega,hol1,hoa1,hOw1,hSp',?_,hAp',?_,hB2,by simp only;omega⟩
            · refine⟨?_,Y,Y,Y,Y,?_,Y,Y,trivial⟩
              · show some (Value.int .i64 ((k:Int)-1))=some (Value.int .i64 ((k-1:Nat):Int))
                congr 2;omega
              · simp only [List.length_append,List.length_singleton];rfl
            · simp only [List.map_append,List.map_cons,List.map_nil,List.flatten_append,List.flatten_cons,List.flatten_nil,List.append_nil,List.length_append,List.length_singleton]
              exact hS'
            · intro z hz
              simp only [List.mem_append,List.mem_singleton]at hz
              rcases hz with hz|rfl
              · exact hAq z hz
              · exact hy
          · replace h:=fa h
            refine su ?_
            refine A0b ⟨⟨k-1,p',q,os1,co1,sp',ap',cp',sq,aq,cq,n1,βe⟩,_,by simp only;omega,⟨Y,?_,cntL⟩,Le.refl _,Y,hp'N,hqN,hol1,hoa1,hOw1,hSp',hSq,hAp',hAq,hB2,by simp only;omega⟩
            refine⟨?_,Y,Y,Y,Y,Y,Y,Y,trivial⟩
            show some (Value.int .i64 ((k:Int)-1))=some (Value.int .i64 ((k-1:Nat):Int))
            congr 2;omega
        · refine su ?_
          refine A1i Y (fun h=>?_) (fun h=>?_)
          · replace h:=fa h
            refine su ?_
            refine Q_op fun ho=>A3w tab ho Y Y Y Y Y Y Y Y Y (fun b3 c3 hL=>?_)
            clear ho
            refine su ?_
            refine Q_op fun ho=>A3x tab (xs:=y.cells) sp [(b3,c3,26)] ((bx,y.val.cells,26)::(βe++([(bo,co1,3),(b4,(Value.agg (List.toArray [natV m.P,.slice m.a m.dawn.length m.cap])).cells,24)]++sq))) ho Y Y Y Y Y Y Y Y Y Y cntA hSp
              (fun hb=>RowAt.own hb cntL hL) Y Y (by show(2*(p.length+1)+768)*32≤2^48;omega) oM (fun sp' ap' cp' hS'=>?_)
            clear ho
            refine su ?_
            refine A0b ⟨_,_,⟨Y,p++[y],sp',ap',cp',by simp only [List.length_append,List.length_singleton];have:=h2 oM;omega,?_,?_,Y⟩,⟨Y,?_,cntL⟩,Le.refl _⟩
            · simp only [List.map_append,List.map_cons,List.map_nil,List.flatten_append,List.flatten_cons,List.flatten_nil,List.append_nil,List.length_append,List.length_singleton]
              exact hS'
            · intro z hz
              simp only [List.mem_append,List.mem_singleton]at hz
              rcases hz with hz|rfl
              · exact hAp z hz
              · exact hy
            · simp only [List.length_append,List.length_singleton]
              exact rg
          · replace h:=fa h
            refine su ?_
            exact A0b ⟨_,_,⟨Y,p,sp,ap,cp,hpN,hSp,hAp,Y⟩,⟨Y,rg,cntL⟩,Le.refl _⟩
      · refine su ?_
        refine A1i Y (fun h=>?_) (fun h=>?_)
        · replace h:=fa h
          refine su ?_
          refine A6d tab y.h Y Y Y Y Y Y Y hyh ?_
          have hset:=ownS_set1 (natV y.b) hOw hyh
          have hoff:0+y.h*1=y.h:=oM
          refine Q_op fun ho=>A1c tab (c:=co) (x:=natV y.b) ho Y Y Y Y Y Y ib (Nat.ble_eq_true_of_le (by rw [hoff];exact hset.2)) sb ?_
          clear ho
          refine su ?_
          refine A0b ⟨_,_,⟨Y,os.set y.h y.b,A0z co (0+y.h*1) [natV y.b],by simpa using hol,fun z hz=>?_,?_,Y⟩,⟨Y,rg,cntL⟩,Le.refl _⟩
          · rcases List.mem_or_eq_of_mem_set hz with h'|h'
            · exact hoa z h'
            · exact h' ▸ hy.ab.2
          · rw [hoff]
            have:=hset.1
            rw [←List.map_set]at this
            exact this
        · replace h:=fa h
          refine su ?_
          exact A0b ⟨_,_,⟨Y,os,co,hol,hoa,hOw,Y⟩,⟨Y,rg,cntL⟩,Le.refl _⟩
    · have hx:x=0∨x=1∨x=2∨x=3:=oM
      rcases hx with rfl|rfl|rfl|rfl
      · by_cases hp:p.length=N
        · refine su ?_
          rw [show((p.length:Int)==(N:Int))=true from by rw [beq_iff_eq];omega]
          refine su ?_
          refine A0b ⟨⟨k-1,p,q,os,co,sp,ap,cp,sq,aq,cq,n+1,βc⟩,u,by simp only;omega,⟨Y,?_,cntL⟩,Le.refl _,Y,hpN,hqN,hol,hoa,hOw,hSp,hSq,hAp,hAq,hB1,by simp only;omega⟩
          refine⟨?_,Y,Y,Y,Y,Y,Y,Y,trivial⟩
          show some (Value.int .i64 ((k:Int)-1))=some (Value.int .i64 ((k-1:Nat):Int))
          congr 2;omega
        · by_cases hq:q.length=N
          · refine su ?_
            rw [show((p.length:Int)==(N:Int))=false from by rw [beq_eq_false_iff_ne];omega]
            refine su ?_
            rw [show((q.length:Int)==(N:Int))=true from by rw [beq_iff_eq];omega]
            refine su ?_
            refine A0b ⟨⟨k-1,p,q,os,co,sp,ap,cp,sq,aq,cq,n+1,βc⟩,u,by simp only;omega,⟨Y,?_,cntL⟩,Le.refl _,Y,hpN,hqN,hol,hoa,hOw,hSp,hSq,hAp,hAq,hB1,by simp only;omega⟩
            refine⟨?_,Y,Y,Y,Y,Y,Y,Y,trivial⟩
            show some (Value.int .i64 ((k:Int)-1))=some (Value.int .i64 ((k-1:Nat):Int))
            congr 2;omega
          · refine su ?_
            rw [show((p.length:Int)==(N:Int))=false from by rw [beq_eq_false_iff_ne];omega]
            refine su ?_
            rw [show((q.length:Int)==(N:Int))=false from by rw [beq_eq_false_iff_ne];omega]
            refine su ?_
            exact A0b ⟨_,_,⟨Y,oM,oM,Y⟩,⟨Y,rg,cntL⟩,Le.refl _⟩
      · by_cases hp:p.length=N
        · refine su ?_
          rw [show((p.length:Int)==(N:Int))=true from by rw [beq_iff_eq];omega]
          refine su ?_
          refine A0b ⟨⟨k-1,p,q,os,co,sp,ap,cp,sq,aq,cq,n+1,βc⟩,u,by simp only;omega,⟨Y,?_,cntL⟩,Le.refl _,Y,hpN,hqN,hol,hoa,hOw,hSp,hSq,hAp,hAq,hB1,by simp only;omega⟩
          refine⟨?_,Y,Y,Y,Y,Y,Y,Y,trivial⟩
          show some (Value.int .i64 ((k:Int)-1))=some (Value.int .i64 ((k-1:Nat):Int))
          congr 2;omega
        · refine su ?_
          rw [show((p.length:Int)==(N:Int))=false from by rw [beq_eq_false_iff_ne];omega]
          refine su ?_
          exact A0b ⟨_,_,⟨Y,oM,oM,Y⟩,⟨Y,rg,cntL⟩,Le.refl _⟩
      · by_cases hq:q.length=N
        · refine su ?_
          rw [show((q.length:Int)==(N:Int))=true from by rw [beq_iff_eq];omega]
          refine su ?_
          refine A0b ⟨⟨k-1,p,q,os,co,sp,ap,cp,sq,aq,cq,n+1,βc⟩,u,by simp only;omega,⟨Y,?_,cntL⟩,Le.refl _,Y,hpN,hqN,hol,hoa,hOw,hSp,hSq,hAp,hAq,hB1,by simp only;omega⟩
          refine⟨?_,Y,Y,Y,Y,Y,Y,Y,trivial⟩
          show some (Value.int .i64 ((k:Int)-1))=some (Value.int .i64 ((k-1:Nat):Int))
          congr 2;omega
        · refine su ?_
          rw [show((q.length:Int)==(N:Int))=false from by rw [beq_eq_false_iff_ne];omega]
          refine su ?_
          exact A0b ⟨_,_,⟨Y,oM,oM,Y⟩,⟨Y,rg,cntL⟩,Le.refl _⟩
      · by_cases hp:p.length=N
        · refine su ?_
          rw [show((p.length:Int)==(N:Int))=true from by rw [beq_iff_eq];omega]
          refine su ?_
          refine A0b ⟨⟨k-1,p,q,os,co,sp,ap,cp,sq,aq,cq,n+1,βc⟩,u,by simp only;omega,⟨Y,?_,cntL⟩,Le.refl _,Y,hpN,hqN,hol,hoa,hOw,hSp,hSq,hAp,hAq,hB1,by simp only;omega⟩
          refine⟨?_,Y,Y,Y,Y,Y,Y,Y,trivial⟩
          show some (Value.int .i64 ((k:Int)-1))=some (Value.int .i64 ((k-1:Nat):Int))
          congr 2;omega
        · by_cases hq:q.length=N
          · refine su ?_
            rw [show((p.length:Int)==(N:Int))=false from by rw [beq_eq_false_iff_ne];omega]
            refine su ?_
            rw [show((q.length:Int)==(N:Int))=true from by rw [beq_iff_eq];omega]
            refine su ?_
            refine A0b ⟨⟨k-1,p,q,os,co,sp,ap,cp,sq,aq,cq,n+1,βc⟩,u,by simp only;omega,⟨Y,?_,cntL⟩,Le.refl _,Y,hpN,hqN,hol,hoa,hOw,hSp,hSq,hAp,hAq,hB1,by simp only;omega⟩
            refine⟨?_,Y,Y,Y,Y,Y,Y,Y,trivial⟩
            show some (Value.int .i64 ((k:Int)-1))=some (Value.int .i64 ((k-1:Nat):Int))
            congr 2;omega
          · refine su ?_
            rw [show((p.length:Int)==(N:Int))=false from by rw [beq_eq_false_iff_ne];omega]
            refine su ?_
            rw [show((q.length:Int)==(N:Int))=false from by rw [beq_eq_false_iff_ne];omega]
            refine su ?_
            exact A0b ⟨_,_,⟨Y,oM,oM,Y⟩,⟨Y,rg,cntL⟩,Le.refl _⟩
  · replace h:=fa h
    have hk0':k=0:=oM
    subst hk0'
    refine su ?_
    by_cases hq0:0<q.length
    · rw [show decide ((q.length:Int) > 0)=true from decide_eq_true oM]
      refine su ?_
      refine Q_op fun ho=>A0o βb _ ho bod103 Y Y Y Y Y split_head (once_x (hr.le (A0g _ _)) hBb oM 2 oM) (fun x β' hR=>?_)
      clear ho
      obtain⟨⟨o,rfl⟩,hB1⟩:=hR
      rename A0e=>βc
      refine su ?_
      refine A1i Y (fun h=>?_) (fun h=>?_)
      · subst h
        obtain⟨bq,cqq,rfl,rfl⟩:∃bq cqq,aq=some ⟨bq,0,none⟩∧sq=[(bq,cqq,26)]:=by
          generalize (q.map MAct.cells).flatten=ll at hSq
          generalize hnn:q.length=nn at hSq
          cases hSq with
          | nil=>omega
          | box _ _ _ _=>exact⟨_,_,rfl,rfl⟩
        refine A1d [4,9,11] [0,1,2,3,5,6,7,8,4,9,10,11] A1e Y kR ?_
        refine su ?_
        refine S_do kR (A0o βc _ Y bod79 Y Y Y Y Y split_head (by rw [show(q.length:Int)-1=((q.length-1:Nat):Int) by omega];exact upTo_x (hr.le (A0g _ _)) hB1 oM (q.length-1) oM) (fun x β' hR=>⟨Le.refl _,?_,?_⟩))
        · exact kp
        obtain⟨⟨x,rfl,hx⟩,hB2⟩:=hR
        rename A0e=>βe
        have hlt:x<q.length:=oM
        refine su ?_
        refine S_do kR (A0o βe ([(bo,co,3),(b4,(Value.agg (List.toArray [natV m.P,.slice m.a m.dawn.length m.cap])).cells,24)]++(sp++[(bq,cqq,26)])) Y bod20 Y Y Y Y Y split_head (actOf_n (hr.le (A0g _ _)) hB2 oM (hm.le (A0g _ _)) (hm.row.le (A0g _ _)) Y hm.all) (fun x β' hR=>⟨Le.refl _,?_,?_⟩))
        · exact kp
        obtain⟨y,hy,rfl,n2,hn2,hB3⟩:=hR
        rename A0e=>βf
        have hset:=ownS_set4 y hSq hlt
        refine su ?_
        refine A0s tab x Y Y Y kR Y Y Y Y Y hlt ?_
        refine S_do kR (A1c tab (c:=cqq) (x:=y.val) Y Y Y Y Y Y Y ib (Nat.ble_eq_true_of_le hset.2) sb ⟨Le.refl _,kp,?_⟩)
        refine su ?_
        have hlen:q.length=(q.set x y).length:=by simp
        refine A0f tab (βf++(sp++[(bq,A0z cqq (0+x*4) y.val.cells.toList,26)])) (by exact .tmp rfl (.tmp rfl .nil)) (Back.here cntL) ?_
        refine⟨p,q.set x y,ap,some ⟨bq,0,none⟩,cp,cq,n2,βf,sp,[(bq,A0z cqq (0+x*4) y.val.cells.toList,26)],by rw [←hlen];rfl,Y,hB3,oM,hSp,hset.1,hpN,by rw [←hlen];exact hqN,hAp,fun z hz=>?_⟩
        rcases List.mem_or_eq_of_mem_set hz with h'|h'
        · exact hAq z h'
        · exact h' ▸ hy
      · subst h
        refine su ?_
        refine A0f tab (βc++(sp++sq)) (by exact .tmp rfl (.tmp rfl .nil)) (Back.here cntL) ?_
        exact⟨p,q,ap,aq,cp,cq,(n+1),βc,sp,sq,Y,Y,hB1,oM,hSp,hSq,hpN,hqN,hAp,hAq⟩
    · rw [show decide ((q.length:Int) > 0)=false from decide_eq_false oM]
      refine su ?_
      refine A0f tab (βb++(sp++sq)) (by exact .tmp rfl (.tmp rfl .nil)) (Back.here cntL) ?_
      exact⟨p,q,ap,aq,cp,cq,n,βb,sp,sq,Y,Y,hBb,oM,hSp,hSq,hpN,hqN,hAp,hAq⟩
end
end Go.Proofs.YtclejblcnfaeaaaGreat
end
section
namespace Go.Proofs.YtclejblcnfaeaaaGreat
open Go Go.Pal Go.Pal.To Go.Conc View
open Go.Proofs.Tryz
set_option maxHeartbeats 4000000
set_option maxRecDepth 20000
section
variable{mn:Who}{v:View}
theorem twoOf_z{g:Bg}{at':Nat}{β:A0e}(hr:g.ok v)(hB:g.at at' β)(hat:at'<2^50){P:Int}{d:List Int}{aD:Option Addr}{cD:Nat}(hd:RowAt v aD (d.map intV))(hm:MOk P d)(hP:2≤P){N:Nat}(hN:N≤8) :
  CallsB prog mn 44 #[g.ptr,moV P aD d.length cD,.int .i64 N,.bool true] (RetB fun r β'=>∃(p q:List MA) (ap aq:Option Addr) (cp cq n:Nat) (βb sp sq:A0e),r = .tuple (List.toArray [.slice ap p.length cp,.slice aq q.length cq])∧β'=βb++(sp++sq)∧g.at n βb∧n≤at'+200∧
   OwnS 26 4 sp ap p.length cp (p.map MA.cells).flatten∧OwnS 26 4 sq aq q.length cq (q.map MA.cells).flatten∧p.length≤N∧q.length≤N∧(∀x∈p,Ok P d.length x)∧∀x∈q,Ok P d.length x) β v:=by
 have h1:=hm.p
 have h2:=hm.len
 obtain⟨P',rfl⟩:∃p:Nat,P=p:=⟨P.toNat,oM⟩
 obtain⟨dn,rfl⟩:=nats_of fun x hx=>(hm.all x hx).1
 rw [List.length_map]at h2⊢
 rw [←nats_to]at hd
 have:=twoOf_x (mn:=mn) (m:=⟨P',dn,aD,cD⟩) hr hB hat ⟨hd,by simp only;omega,h2,fun x hx=>by
  have:=(hm.all x (List.mem_map.2 ⟨x,hx,Y⟩)).2
  simp only;omega⟩ hN
 refine CallsB.mono this fun e β' h=>?_
 cases e with
 | ret r=>
  obtain⟨p,q,ap,aq,cp,cq,n,βb,sp,sq,rfl,h2,h3,h4,h5,h6,h7,h8,h9,h10⟩:=h
  simp only at h9 h10
  refine⟨p.map MAct.to,q.map MAct.to,ap,aq,cp,cq,n,βb,sp,sq,?_,h2,h3,h4,?_,?_,?_,?_,fun y hy=>?_,fun y hy=>?_⟩
  ·rw [List.length_map,List.length_map]
  ·rw [List.length_map,←cells_to];exact h5
  ·rw [List.length_map,←cells_to];exact h6
  ·rw [List.length_map];exact h7
  ·rw [List.length_map];exact h8
  ·obtain⟨z,hz,rfl⟩:=List.mem_map.1 hy
   exact(h9 z hz).to
  ·obtain⟨z,hz,rfl⟩:=List.mem_map.1 hy
   exact(h10 z hz).to
 | _=>exact h.elim
end
theorem putV_mo{P:Int}{a:Option Addr}{n c:Nat}:(putV (Value.agg (List.toArray [.int .i64 0,.slice none 0 0])).cells.toList 0 (moV P a n c).cells.toList).toArray=(moV P a n c).cells:=rfl
theorem ownInts_i{mn:Who}{v:View}{a:Option Addr}{cap:Nat}{xs:List Int}(hx:RowAt v a (xs.map intV))(hl:xs.length<2^30) :
  CallsB prog mn 51 #[.slice a xs.length cap] (RetB fun r β'=>∃a' cap',r = .slice a' xs.length cap'∧OwnS 3 1 β' a' xs.length cap' (xs.map intV)) [] v:=by
 refine A0d tab func51 Y nB (args:=[_]) ?_
 refine su ?_
 refine Q_op fun ho=>A3w tab ho Y Y Y Y Y Y Y Y Y (fun b2 c2 hS=>?_)
 refine su ?_
 refine Q_op fun ho=>A3x tab (xs:=xs.map intV) [(b2,c2,3)] [] [] ho Y Y Y Y Y Y Y Y Y Y (fun _=>rfl) hS
  (fun _=>hx.le (A0g _ _)) sM (by simp [List.all_eq_true,A2k]) oM oM (fun seg a' cap' hS'=>?_)
 refine su ?_
 refine A0f tab seg (by exact .tmp rfl .nil) (Back.here cntL) ?_
 rw [Nat.zero_add]at hS'
 exact⟨a',cap',by show Value.slice a' (0+xs.length) cap'=_;rw [Nat.zero_add],hS'⟩
end Go.Proofs.YtclejblcnfaeaaaGreat
end
section
namespace Go.Pal.To
open Go
def addO(h:Nat)(acc:List Int)(w:Wy):List Int:=if ow w.dusk h∈acc then acc else acc++[ow w.dusk h]
def B2u(ws:List Wy)(h:Nat):List Int:=ws.foldl (addO h) []
theorem ownersL_snoc(ws:List Wy)(w:Wy)(h:Nat):B2u (ws++[w]) h=addO h (B2u ws h) w:=by simp [B2u,List.foldl_append]
theorem mem_foldO{h:Nat}{x:Int}:∀{ws:List Wy} {acc:List Int},x∈ws.foldl (addO h) acc↔x∈acc∨∃w∈ws,ow w.dusk h=x
 | [],acc=>by simp
 | w::ws,acc=>by
  rw [List.foldl_cons,mem_foldO]
  have e:x∈addO h acc w↔x∈acc∨ow w.dusk h=x:=by
   unfold addO
   split
   ·rename_i hm
    constructor
    ·exact .inl
    ·rintro(h1|h1)
     ·exact h1
     ·rw [←h1];exact hm
   ·rw [List.mem_append,List.mem_singleton,eq_comm (a:=x)]
  rw [e]
  constructor
  ·rintro((h1|h1)|⟨w',h1,h2⟩)
   ·exact .inl h1
   ·exact .inr ⟨w,by simp,h1⟩
   ·exact .inr ⟨w',by simp [h1],h2⟩
  ·rintro(h1|⟨w',h1,h2⟩)
   ·exact .inl (.inl h1)
   ·rcases List.mem_cons.1 h1 with rfl|h1
    ·exact .inl (.inr h2)
    ·exact .inr ⟨w',h1,h2⟩
theorem mem_ownersL{ws:List Wy}{h:Nat}{x:Int}:x∈B2u ws h↔∃w∈ws,ow w.dusk h=x:=by
 unfold B2u;rw [mem_foldO];simp
theorem foldO_len{h:Nat}:∀{ws:List Wy} {acc:List Int},(ws.foldl (addO h) acc).length≤acc.length+ws.length
 | [],_=>by simp
 | w::ws,acc=>by
  rw [List.foldl_cons]
  refine Nat.le_trans foldO_len ?_
  have:(addO h acc w).length≤acc.length+1:=by unfold addO;split<;>simp
  simp only [List.length_cons];omega
theorem ownersL_len(ws:List Wy)(h:Nat):(B2u ws h).length≤ws.length:=by
 have:=foldO_len (h:=h) (ws:=ws) (acc:=[])
 simpa [B2u]using this
theorem B2v{h:Nat}:∀{ws:List Wy} {acc:List Int},acc.Nodup→(ws.foldl (addO h) acc).Nodup
 | [],_,h=>h
 | w::ws,acc,ha=>by
  rw [List.foldl_cons]
  refine B2v ?_
  unfold addO
  split
  ·exact ha
  ·rename_i hm
   rw [List.nodup_append]
   refine⟨ha,by simp,fun a h1 b h2 e=>?_⟩
   rw [List.mem_singleton]at h2
   subst h2;subst e
   exact hm h1
theorem nodup_ownersL(ws:List Wy)(h:Nat):(B2u ws h).Nodup:=B2v sM
theorem len_sub:∀{l m:List Int},l.Nodup→(∀x∈l,x∈m)→l.length≤m.length
 | [],_,_,_=>Nat.zero_le _
 | x::l,m,hn,h=>by
  have hx:=h x sM
  rw [List.nodup_cons]at hn
  have:=len_sub (l:=l) (m:=m.erase x) hn.2 fun y hy=>(List.mem_erase_of_ne (show y≠x from fun e=>hn.1 (by rw [←e];exact hy))).2 (h y (by simp [hy]))
  rw [List.length_erase_of_mem hx]at this
  have:=List.length_pos_of_mem hx
  simp only [List.length_cons];omega
theorem four{l:List Int}(hn:l.Nodup)(h:∀x∈l,0≤x∧x<4):l.length≤4:=by
 have hs:∀x∈l,x∈([0,1,2,3]:List Int):=fun x hx=>by
  have:=h x hx
  have e:x=0∨x=1∨x=2∨x=3:=oM
  rcases e with rfl|rfl|rfl|rfl<;>simp
 exact len_sub hn hs
def OwnersIs(P:Int)(d:List Int)(a b:List MA)(h:Int)(r:List Int×Int):Prop:=
 if(A5y P d a b (knows h d.length)).1≠0 then r=([],(A5y P d a b (knows h d.length)).1)
 else r.2=0∧r.1.Pairwise (· < ·)∧∀x,x∈r.1↔∃w∈A6k a b d,ow w.dusk h.toNat=x
end Go.Pal.To
end
