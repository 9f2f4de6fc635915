/- Part 43. -/
import Derived.Test.YtclejblcnfaeaaaGreatDoorPbn
import Derived.Test.YtclejblcnfaeaaaGreatDoorPbo
import Derived.Test.YtclejblcnfaeaaaGreatDoorPbp
set_option linter.all false
section
namespace Go.Proofs.YtclejblcnfaeaaaGreatDoor
open Go Go.Pal Go.Proofs.Tryz
theorem bod11:A0i Tryz.prog 11:=⟨_,_,func11,Y,by decide⟩
theorem bod19:A0i Tryz.prog 19:=⟨_,_,func19,Y,by decide⟩
theorem bod25:A0i Tryz.prog 25:=⟨_,_,func25,Y,by decide⟩
theorem bod39:A0i Tryz.prog 39:=⟨_,_,func39,Y,by decide⟩
theorem bod40:A0i Tryz.prog 40:=⟨_,_,func40,Y,by decide⟩
theorem bod46:A0i Tryz.prog 46:=⟨_,_,func46,Y,by decide⟩
theorem bod62:A0i Tryz.prog 62:=⟨_,_,func62,Y,by decide⟩
theorem bod87:A0i Tryz.prog 87:=⟨_,_,func87,Y,by decide⟩
theorem bod88:A0i Tryz.prog 88:=⟨_,_,func88,Y,by decide⟩
theorem bod91:A0i Tryz.prog 91:=⟨_,_,func91,Y,by decide⟩
theorem bod93:A0i Tryz.prog 93:=⟨_,_,func93,Y,by decide⟩
theorem bod110:A0i Tryz.prog 110:=⟨_,_,func110,Y,by decide⟩
theorem bod133:A0i Tryz.prog 133:=⟨_,_,func133,Y,by decide⟩
theorem bod136:A0i Tryz.prog 136:=⟨_,_,func136,Y,by decide⟩
theorem bod166:A0i Tryz.prog 166:=⟨_,_,func166,Y,by decide⟩
theorem bod172:A0i Tryz.prog 172:=⟨_,_,func172,Y,by decide⟩
end Go.Proofs.YtclejblcnfaeaaaGreatDoor
end
section
namespace Go.Pal
open Go Go.Conc View
structure KeyT(P:Program)(t:TypeId){κ:Type}[DecidableEq κ](val:κ→Value):Prop where
 eq:∀(a b:κ) {K:Bool→View→Prop} {E:Value→View→Prop} {v:View},K (decide (a=b)) v→SemX P (Op.equal t (val a) (val b)) K E v
 chk:∀(e:Bool) (a:κ) {K:Unit→View→Prop} {E:Value→View→Prop} {v:View},K () v→SemX P (Instr.checkKey e 10000 t (val a)) K E v
 now:∃d,P.underlying t=some d∧((∀a b,Instr.sameNow d (val a) (val b)=none)∨(∀a b,Instr.sameNow d (val a) (val b)=some (decide (a=b))))
 bits:∀a,Instr.sameBits 10000 (val a) (val a)=true
abbrev Ents(κ:Type):=List (κ×Value×Nat)
def B2r{κ:Type}(val:κ→Value)(e:κ×Value×Nat):MapEntry:={key:=val e.1,val:=e.2.1,born:=e.2.2 }
def mapO{κ:Type}(val:κ→Value)(l:Ents κ)(ck:Nat):Obj:=.map (l.map (B2r val)).toArray ck
def B2s{κ:Type}[DecidableEq κ](k:κ):Ents κ→Nat→Option (Nat×Value)
 | [],_=>none
 | e::es,i=>if k=e.1 then some (i,e.2.1)else B2s k es (i+1)
section
variable{κ:Type}[DecidableEq κ]
theorem findE_some{k:κ}:∀{l:Ents κ} {i j:Nat} {x:Value},B2s k l i=some (j,x)→i≤j∧∃b,l[j-i]?=some (k,x,b)
 | [],i,j,x,h=>by cases h
 | e::es,i,j,x,h=>by
  unfold B2s at h
  split at h
  ·rename_i hk
   cases h
   exact⟨Nat.le_refl _,e.2.2,by simp [hk]⟩
  ·obtain⟨h1,b,h2⟩:=findE_some h
   refine⟨oM,b,?_⟩
   rw [show j-i=(j-(i+1))+1 by omega]
   simpa using h2
variable{P:Program}{t:TypeId}{val:κ→Value}{E:Value→View→Prop}{v:View}
theorem B2t(hk:KeyT P t val){k:κ}{K:Option (Nat×Value)→View→Prop}:∀(l:Ents κ) (i:Nat),K (B2s k l i) v→SemX P (Instr.findAsking t (val k) (l.map (B2r val)) i) K E v
 | [],i,h=>h
 | e::es,i,h=>by
  show SemX P (Instr.findAsking t (val k) (B2r val e::es.map (B2r val)) i) K E v
  unfold Instr.findAsking
  rw [A0a]
  refine hk.eq k e.1 ?_
  unfold B2s at h
  by_cases hke:k=e.1
  ·rw [if_pos hke]at h
   simp only [hke,decide_true,if_true]
   exact h
  ·rw [if_neg hke]at h
   simp only [hke,decide_false,Bool.false_eq_true,if_false]
   exact B2t hk es (i+1) h
theorem sx_findKey(hk:KeyT P t val){k:κ}{K:Option (Nat×Value)→View→Prop}{l:Ents κ}(h:K (B2s k l 0) v):SemX P (Instr.findKey t (val k) (l.map (B2r val))) K E v:=by
 obtain⟨d,hd,hn⟩:=hk.now
 unfold Instr.findKey
 rw [A0a,A8c hd]
 rcases hn with hn|hn
 ·cases l with
  | nil=>exact h
  | cons e es=>
   have:Instr.findNow d (val k) ((e::es).map (B2r val)) 0=none:=by
    show Instr.findNow d (val k) (B2r val e::es.map (B2r val)) 0=none
    unfold Instr.findNow
    rw [show(B2r val e).key=val e.1 from Y,hn]
   simp only [this]
   exact B2t hk _ 0 h
 ·have:∀(l:Ents κ) (i:Nat),Instr.findNow d (val k) (l.map (B2r val)) i=some (B2s k l i):=by
   intro l
   induction l with
   | nil=>intro i;rfl
   | cons e es ih=>
    intro i
    show Instr.findNow d (val k) (B2r val e::es.map (B2r val)) i=_
    unfold Instr.findNow B2s
    rw [show(B2r val e).key=val e.1 from Y,hn,ih]
    by_cases hke:k=e.1
    ·simp [hke,B2r]
    ·simp [hke]
  simp only [this]
  exact h
variable(T:Tab P)
theorem sx_mapNew{mt el:TypeId}(hm:T.und mt=some (.map t el))(hk:KeyT P t val){k:κ}{x:Value}{r ck:Nat}{l:Ents κ}{K:Unit→View→Prop}(hv:v r=some (true,mapO val l ck))(hf:B2s k l 0=none)
  (h:K () (v.set r true (mapO val (l++[(k,x,ck)]) (ck+1)))):SemX P (Instr.mapUpdate mt (.map (some r)) (val k) x) K E v:=by
 unfold Instr.mapUpdate
 rw [A0a,A1k T hm]
 rw [A0a]
 refine A9h hv Y Y ?_
 simp only [mapO,A0a]
 refine hk.chk false k ?_
 refine sx_findKey hk ?_
 simp only [hf]
 refine A6t hv Y Y ?_
 have:(List.map (B2r val) l).toArray.push {key:=val k,val:=x,born:=ck }=(List.map (B2r val) (l++[(k,x,ck)])).toArray:=by simp [B2r]
 rw [this]
 exact h
theorem sx_lookup{mt el:TypeId}(hm:T.und mt=some (.map t el))(hk:KeyT P t val){k:κ}{z:Value}(hz:T.zer el=some z){r ck:Nat}{p ok:Bool}{l:Ents κ}{K:Value→View→Prop}(hv:v r=some (p,mapO val l ck))
  (h:K (match B2s k l 0 with|some (_,y)=>(if ok then .tuple #[y,.bool true]else y)|none=>(if ok then .tuple #[z,.bool false]else z)) v):SemX P (Instr.lookup mt (.map (some r)) (val k) ok) K E v:=by
 unfold Instr.lookup
 rw [A0a,A1k T hm]
 rw [A0a]
 refine A9h hv Y Y ?_
 simp only [mapO,A0a,A0h]
 refine hk.chk _ k ?_
 refine sx_findKey hk ?_
 cases hf:B2s k l 0 with
 | none=>
  simp only [hf]at h
  simp only [A0a,A8b T hz]
  cases ok<;>exact h
 | some q=>
  obtain⟨j,y⟩:=q
  simp only [hf]at h
  cases ok<;>exact h
omit [DecidableEq κ]in
theorem sx_makeMap{mt:TypeId}{K:Value→View→Prop}(h:∀r,v r=none→K (.map (some r)) (v.set r true (mapO val [] 0))):SemX P (Instr.makeMap mt none) K E v:=by
 unfold Instr.makeMap
 simp only [A0a]
 intro r hr
 exact h r hr
end
section
variable{P:Program}{mn:Who}(T:Tab P){rd:Option Nat}{n:Nat}{Q:Exit→St→View→Prop}{ds:List Deferred}{ρ:Regs}{β:A0e}{v:View}{K:St→View→Prop}
 {ops:Array Oper}{i:Nat}{d:Nat}{ty:TypeId}{pos:String}{af:Array Edge}{gu:Option (Nat×Bool)}{κ:Type}[DecidableEq κ]{t:TypeId}{val:κ→Value}
omit [DecidableEq κ]in
theorem A_makeMap{mt:TypeId}(val:κ→Value)(ho:ops[i]?=some ⟨some d,.makeMap mt none,ty,pos,af,gu⟩)(hw:A0p ops gu ρ=some true)(hn:Nat.blt d n=true)
  (h:∀r,v r=none→K ⟨ds,(d,.map (some r))::ρ,β⟩ (v.set r true (mapO val [] 0))):XOp P mn rd n ops i Q K ⟨ds,ρ,β⟩ v:=by
 refine A1w ho (A0j hw) (.inr Y) hn fun ev hev hbk=>?_
 simp only [execOp,A0a,Option.map_none]
 refine sx_makeMap (val:=val) fun r hr=>?_
 have hr':v r=none∧A0c β r=none:=by
  unfold View.union at hr
  cases e:v r with
  | none=>rw [e]at hr;exact⟨rfl,hr⟩
  | some x=>rw [e]at hr;cases hr
 obtain⟨h1,h2⟩:=B2f (p:=true) (o:=mapO val [] 0) hbk hr'.2
 exact⟨β,_,⟨h1,h2 ▸ Le.refl _⟩,h r hr'.1⟩
theorem A_mapNew{mt el:TypeId}{x y z:Operand}{k:κ}{xv:Value}{r ck:Nat}{l:Ents κ}(hk:KeyT P t val)(ho:ops[i]?=some ⟨none,.mapUpdate mt x y z,ty,pos,af,gu⟩)(hw:A0p ops gu ρ=some true)(hx:ρ.val x=some (.map (some r)))(hy:ρ.val y=some (val k))(hz:ρ.val z=some xv)
  (hm:T.und mt=some (.map t el))(hv:v r=some (true,mapO val l ck))(hf:B2s k l 0=none)
  (h:K ⟨ds,ρ,β⟩ (v.set r true (mapO val (l++[(k,xv,ck)]) (ck+1)))):XOp P mn rd n ops i Q K ⟨ds,ρ,β⟩ v:=by
 refine A1w ho (A0j hw) (.inr Y) Y fun ev hev hbk=>?_
 simp only [execOp,A0a,hev _ _ hx,hev _ _ hy,hev _ _ hz]
 refine sx_mapNew T hm hk (A2t hv) hf ?_
 obtain⟨h1,h2⟩:=B2f (p:=true) (o:=mapO val (l++[(k,xv,ck)]) (ck+1)) hbk (box_none hbk hv)
 exact⟨β,_,⟨h1,h2 ▸ Le.refl _⟩,h⟩
theorem A_lookup{mt el:TypeId}{x y:Operand}{k:κ}{zv:Value}{r ck:Nat}{p ok:Bool}{l:Ents κ}(hk:KeyT P t val)(ho:ops[i]?=some ⟨some d,.lookup mt x y ok,ty,pos,af,gu⟩)(hw:A0p ops gu ρ=some true)(hn:Nat.blt d n=true)(hx:ρ.val x=some (.map (some r)))(hy:ρ.val y=some (val k))
  (hm:T.und mt=some (.map t el))(hzz:T.zer el=some zv)(hv:v r=some (p,mapO val l ck))
  (h:K ⟨ds,(d,match B2s k l 0 with|some (_,y)=>(if ok then .tuple #[y,.bool true]else y)|none=>(if ok then .tuple #[zv,.bool false]else zv))::ρ,β⟩ v):XOp P mn rd n ops i Q K ⟨ds,ρ,β⟩ v:=by
 refine A1w ho (A0j hw) (.inr Y) hn fun ev hev hbk=>?_
 simp only [execOp,A0a,hev _ _ hx,hev _ _ hy]
 exact sx_lookup T hm hk hzz (A2t hv) ⟨β,v,⟨hbk,Le.refl _⟩,h⟩
end
section
variable{P:Program}{mn:Who}(T:Tab P){rd:Option Nat}{n:Nat}{Q:Exit→St→View→Prop}{ds:List Deferred}{ρ:Regs}{β:A0e}{v:View}{K:St→View→Prop}
 {ops:Array Oper}{i:Nat}{d:Nat}{ty:TypeId}{pos:String}{af:Array Edge}{gu:Option (Nat×Bool)}
include T in
theorem A_indexA{t e:TypeId}{y z:Operand}{cs:Array Value}{len sz j:Nat}{jz:Int}{k:IntKind}{x:Value}(ho:ops[i]?=some ⟨some d,.index t y z,ty,pos,af,gu⟩)(hw:A0p ops gu ρ=some true)(hn:Nat.blt d n=true)
  (hy:ρ.val y=some (.agg cs))(hz:ρ.val z=some (.int k jz))(hj:jz=j)(ht:T.und t=some (.array len e))(hs:T.siz e=some sz)(hl:j<len)(hx:partOf T e cs (j*sz)=some x)
  (h:K ⟨ds,(d,x)::ρ,β⟩ v):XOp P mn rd n ops i Q K ⟨ds,ρ,β⟩ v:=by
 refine A1w ho (A0j hw) (.inr Y) hn fun ev hev hbk=>?_
 subst hj
 simp only [execOp,A0a,hev _ _ hy,hev _ _ hz,Instr.index,asIntOf,A0h,A1k T ht]
 rw [if_pos ⟨oM,oM⟩]
 simp only [A0a,A4f T hs,Int.toNat_natCast]
 exact part_sound T hx ⟨β,v,⟨hbk,Le.refl _⟩,h⟩
end
section
variable{P:Program}{mn:Who}(T:Tab P){u v:View}{n:Nat}{ρ:Regs}{β:A0e}
theorem A6l.mono{k:FuncId}{args:List Value}{R R':Value→View→Prop}(h:A6l P mn k args R v)(hR:∀x u,v.Le u→R x u→R' x u):A6l P mn k args R' v:=
 CallsX.mono h fun e w ⟨x,h1,h2,h3⟩=>⟨w,Le.refl _,x,h1,h2,hR x w h2 h3⟩
end
end Go.Pal
end
section
namespace Go.Pal.To
open Go
theorem ow_get{os:List Int}{i:Nat}(h:i<os.length):ow os i=os[i]:=by simp [ow,h]
end Go.Pal.To
end
section
namespace Go.Pal
open Go Go.Conc View
open Go.Sort (swp)
section
variable{E:Type}[Inhabited E]{SZ:Nat}{cl:E→List Value}{okE:E→Prop}{cap:Nat}{d:Array E}{c:Array Value}
theorem DB.swp(h:DB SZ cl okE cap d c){i j:Nat}(hi:i<d.size)(hj:j<d.size):DB SZ cl okE cap (swp d i j) (A0z (A0z c (0+i*SZ) (cl d[j]!)) (0+j*SZ) (cl d[i]!)):=
 (h.set hi (h.ok hj)).set (by simpa using hj) (h.ok hi)
end
end Go.Pal
end
section
namespace Go.Pal.To
theorem mem_waysM{F:List MA→List MA→Wy→List Wy}{a b:List MA}{w u:Wy}{m:Nat}:u∈A2j F a b w m↔∃x a' b',A4g a b m=some (x,a',b')∧refd w.dusk x=false∧u∈F a' b' (w.add m x):=by
 unfold A2j
 cases e:A4g a b m with
 | none=>simp
 | some t=>
  obtain⟨x,a',b'⟩:=t
  simp only
  constructor
  ·intro h
   split at h
   ·cases h
   ·rename_i hr
    exact⟨x,a',b',Y,by simpa using hr,h⟩
  ·rintro⟨y,a2,b2,h1,h2,h3⟩
   cases h1
   rw [if_neg (by simp [h2])]
   exact h3
theorem mem_ways_step{a b:List MA}{w u:Wy}(h:¬(a=[]∧b=[])):u∈ways a b w↔∃m,m<3∧u∈A2j ways a b w m:=by
 rw [A9c h,List.mem_append,List.mem_append]
 constructor
 ·rintro((h|h)|h)
  ·exact⟨0,by decide,h⟩
  ·exact⟨1,by decide,h⟩
  ·exact⟨2,by decide,h⟩
 ·rintro⟨m,hm,h⟩
  have e:m=0∨m=1∨m=2:=oM
  rcases e with rfl|rfl|rfl
  ·exact .inl (.inl h)
  ·exact .inl (.inr h)
  ·exact .inr h
theorem mem_ways:∀{n:Nat} {a b:List MA} {w u:Wy},a.length+b.length≤n→(u∈ways a b w↔∃ms bk dk,W a b w.dusk ms bk dk∧u=⟨w.marks++ms.map (fun k:Nat=>(k:Int)),w.book++bk,dk⟩)
 | n,a,b,w,u,hn=>by
  by_cases e:a=[]∧b=[]
  ·obtain⟨rfl,rfl⟩:=e
   rw [A7z,List.mem_singleton]
   constructor
   ·rintro rfl
    exact⟨[],[],_,.nil,by simp⟩
   ·rintro⟨ms,bk,dk,h,rfl⟩
    cases h with
    | nil=>simp
    | step h1 h2=>unfold A4g at h2;split at h2<;>simp at h2
  ·cases n with
   | zero=>
    exfalso
    apply e
    exact⟨List.length_eq_zero_iff.1 oM,List.length_eq_zero_iff.1 oM⟩
   | succ n=>
    rw [mem_ways_step e]
    constructor
    ·rintro⟨m,hm,h⟩
     obtain⟨x,a',b',h1,h2,h3⟩:=mem_waysM.1 h
     have hl:=A4u h1
     obtain⟨ms,bk,dk,hW,rfl⟩:=(mem_ways (n:=n) oM).1 h3
     exact⟨m::ms,x::bk,dk,.step hm h1 h2 hW,by simp [Wy.add]⟩
    ·rintro⟨ms,bk,dk,h,rfl⟩
     cases h with
     | nil=>exact absurd ⟨rfl,rfl⟩ e
     | @step _ _ a' b' _ _ m x ms bk h1 h2 h3 h4=>
      refine⟨m,h1,mem_waysM.2 ⟨x,a',b',h2,h3,?_⟩⟩
      have hl:=A4u h2
      exact(mem_ways (n:=n) oM).2 ⟨ms,bk,dk,h4,by simp [Wy.add]⟩
def wyOf(ms:List Nat)(bk:List MA)(dk:List Int):Wy:=⟨ms.map (fun k:Nat=>(k:Int)),bk,dk⟩
theorem mem_ways0{a b:List MA}{os:List Int}{u:Wy}:u∈ways a b ⟨[],[],os⟩↔∃ms bk dk,W a b os ms bk dk∧u=wyOf ms bk dk:=by
 rw [mem_ways (Nat.le_refl _)]
 constructor
 ·rintro⟨ms,bk,dk,h,rfl⟩
  exact⟨ms,bk,dk,h,by simp [wyOf]⟩
 ·rintro⟨ms,bk,dk,h,rfl⟩
  exact⟨ms,bk,dk,h,by simp [wyOf]⟩
theorem mem_bests{a b:List MA}{os:List Int}{u:Wy}:u∈A6k a b os↔u∈ways a b ⟨[],[],os⟩∧∀v∈ways a b ⟨[],[],os⟩,lenW u≤lenW v:=by
 unfold A6k
 constructor
 ·intro h
  obtain⟨h1,h2⟩:=A9v h
  have h3:=A6a (l:=ways a b ⟨[],[],os⟩) (by intro e;rw [e]at h1;cases h1)
  exact⟨h1,fun v hv=>by rw [h2];exact h3.2.1 v hv⟩
 ·rintro⟨h1,h2⟩
  have h3:=A6a (l:=ways a b ⟨[],[],os⟩) (by intro e;rw [e]at h1;cases h1)
  obtain⟨v,hv⟩:=List.exists_mem_of_ne_nil _ h3.1
  obtain⟨h4,h5⟩:=A9v hv
  rw [h3.2.2,List.mem_filter]
  refine⟨h1,?_⟩
  have h6:=h2 v h4
  have h7:=h3.2.1 u h1
  simp;omega
theorem W.book_len{a b:List MA}{os dk:List Int}{ms:List Nat}{bk:List MA}(h:W a b os ms bk dk):ms.length=bk.length:=by
 induction h with
 | nil=>rfl
 | step _ _ _ _ ih=>simp [ih]
theorem W.dusk{a b:List MA}{os dk:List Int}{ms:List Nat}{bk:List MA}(h:W a b os ms bk dk):dk=A3z os bk:=by
 induction h with
 | nil=>rfl
 | step _ _ _ _ ih=>exact ih
theorem B2u{a b a' b':List MA}{m:Nat}{x:MA}(hm:m<3)(h:A4g a b m=some (x,a',b')):(m=0∧a=x::a'∧b=x::b')∨(m=1∧a=x::a'∧b=b')∨(m=2∧a=a'∧b=x::b'):=by
 have e:m=0∨m=1∨m=2:=oM
 rcases e with rfl|rfl|rfl
 ·unfold A4g at h
  simp only at h
  split at h
  ·split at h
   ·rename_i hxy
    cases h
    subst hxy
    exact .inl ⟨Y,Y,Y⟩
   ·cases h
  ·cases h
 ·unfold A4g at h
  simp only at h
  split at h
  ·cases h
   exact .inr (.inl ⟨Y,Y,Y⟩)
  ·cases h
 ·unfold A4g at h
  simp only at h
  split at h
  ·cases h
   exact .inr (.inr ⟨Y,Y,Y⟩)
  ·cases h
theorem W.ge{a b:List MA}{os dk:List Int}{ms:List Nat}{bk:List MA}(h:W a b os ms bk dk):a.length≤ms.length∧b.length≤ms.length∧ms.length≤a.length+b.length:=by
 induction h with
 | nil=>simp
 | step h1 h2 _ _ ih=>rcases B2u h1 h2 with ⟨rfl,rfl,rfl⟩|⟨rfl,rfl,rfl⟩|⟨rfl,rfl,rfl⟩<;>simp at ih⊢<;>omega
end Go.Pal.To
end
section
namespace Go.Pal.To
open Go
theorem repsOf_get:∀{l:List MA} {os:List Int} {i:Nat} (hi:i<l.length),(B0g os l)[i]?=some (B1q (A3z os (l.take i)) l[i])
 | [],_,_,h=>absurd h (Nat.not_lt_zero _)
 | x::l,os,0,_=>rfl
 | x::l,os,i+1,h=>by
  show(B0g (doN os x) l)[i]?=_
  rw [repsOf_get (by simpa using h)]
  rfl
theorem doN_in{P N:Int}{os:List Int}{x:MA}(h:∀o∈os,0≤o∧o<P)(hx:Ok P N x):∀o∈doN os x,0≤o∧o<P:=fun o ho=>by
 unfold doN at ho
 split at ho
 ·rename_i hs
  have hk:x.k=0:=by simp only [sold,Bool.and_eq_true,beq_iff_eq]at hs;exact hs.1
  rcases List.mem_or_eq_of_mem_set ho with h1|rfl
  ·exact h o h1
  ·exact(hx.ab oM).2
 ·exact h o ho
theorem duskOf_in{P N:Int}:∀{l:List MA} {os:List Int},(∀o∈os,0≤o∧o<P)→(∀x∈l,Ok P N x)→∀o∈A3z os l,0≤o∧o<P
 | [],_,h,_=>h
 | x::l,os,h,hl=>duskOf_in (l:=l) (os:=doN os x) (doN_in h (hl x sM)) fun y hy=>hl y (by simp [hy])
end Go.Pal.To
end
section
namespace Go.Proofs.YtclejblcnfaeaaaGreatDoor
open Go Go.Pal Go.Pal.To Go.Conc View
open Go.Proofs.Tryz
set_option maxHeartbeats 4000000
set_option maxRecDepth 20000
section
variable{mn:Who}{v:View}{P:Int}{aD aA:Option Addr}{cD cA:Nat}{d:List Int}{l:List MA}
theorem hold_ok(hd:RowAt v aD (d.map intV))(ha:ActsAt v aA l)(hok:HOk P d l) :
  A6l prog mn 10 [moV P aD d.length cD,.slice aA l.length cA] (fun x u=>∃ar cr ad cd,x = .tuple (List.toArray [.slice ar l.length cr,.slice ad d.length cd,intV 0])∧RowAt u ar ((B0g d l).map .string)∧RowAt u ad ((A3z d l).map intV)) v:=
 A6l.mono (hold_x hd (by have:=hok.m.len;omega) ha (by have:=hok.len;omega)) fun x u hl hx=>by
  obtain⟨ar,cr,ad,cd,h1,h2,h3⟩:=hx
  unfold holdR at h1 h2 h3
  rw [if_neg (by simpa using holdE_ok.2 hok)]at h1 h2 h3
  simp only [repsOf_len,A9w]at h1
  exact⟨ar,cr,ad,cd,h1,h2,h3⟩
theorem string_ne{s:ByteArray}(t:ByteArray)(h:s≠t):(s.toList==t.toList)=false:=by
 rw [beq_eq_false_iff_ne]
 intro e
 rw [ByteArray.toList_eq,ByteArray.toList_eq]at e
 exact h (bytes_eq e)
end
section
variable{mn:Who}{v:View}
def MAct.to(x:MAct):MA:=⟨x.k,x.a,x.b,x.h⟩
end
end Go.Proofs.YtclejblcnfaeaaaGreatDoor
end
section
namespace Go.Pal
open Go Go.Conc View
def TopQ(t:Nat):Exit→St→View→Prop:=fun e σ _=>e = .ret∧σ.ds=[]∧σ.ρ.get t=some (.bool true)
section
variable{P:Program}{mn:Who}{v:View}
theorem top_run{f:FuncId}{fn:Func}{c:Code}{args:List Value}{t:Nat}(hf:P.funcs[f]?=some fn)(hb:fn.body=some c)(hn:args.length≤fn.ntmps)(h:XC P mn none fn.ntmps c (TopQ t) ⟨[],A2l 0 args,[]⟩ v) :
  Run P mn (AtTop f t) v (G (Frame.enter P f args.toArray .normal) []):=by
 let b:Frame:={fn:=f,tmps:=#[],todo:=[],defers:=[],mode:=.run,kind:=.normal }
 have henter:Frame.enter P f args.toArray .normal=b.on {tmps:=args.toArray++Array.replicate (fn.ntmps-args.toArray.size) undef,defers:=[] } [.code c]:=by
  simp [Frame.enter,Frame.on,hf,hb,b]
 rw [henter]
 have h1:=(h _ (B1y hn) (A4c v)) (AtTop f t) b [] [] (by simp [b]) Y (fun e a' w hQ=>by
  obtain⟨⟨ds',ρ',β'⟩,u,⟨rfl,h1,h2⟩,hf',hb',hl⟩:=hQ
  intro todo
  refine Run.ctl Y (g':=G {b.on a' (.code .ret::todo)with mode:=.returning } []) (fun w=>by simp [G,stepG,stepG.exec,Frame.on,b]) ?_
  exact .stop (Le.refl _) ⟨_,Y,Y,hf'.defers.trans h1,Y,Y,hf'.get _ _ h2⟩)
 rw [A1r]at h1
 exact h1
end
end Go.Pal
end
section
namespace Go.Pal.To
open Go
def addO(h:Nat)(acc:List Int)(w:Wy):List Int:=if ow w.dusk h∈acc then acc else acc++[ow w.dusk h]
def B2v(ws:List Wy)(h:Nat):List Int:=ws.foldl (addO h) []
theorem ownersL_snoc(ws:List Wy)(w:Wy)(h:Nat):B2v (ws++[w]) h=addO h (B2v ws h) w:=by simp [B2v,List.foldl_append]
theorem mem_foldO{h:Nat}{x:Int}:∀{ws:List Wy} {acc:List Int},x∈ws.foldl (addO h) acc↔x∈acc∨∃w∈ws,ow w.dusk h=x
 | [],acc=>by simp
 | w::ws,acc=>by
  rw [List.foldl_cons,mem_foldO]
  have e:x∈addO h acc w↔x∈acc∨ow w.dusk h=x:=by
   unfold addO
   split
   ·rename_i hm
    constructor
    ·exact .inl
    ·rintro(h1|h1)
     ·exact h1
     ·rw [←h1];exact hm
   ·rw [List.mem_append,List.mem_singleton,eq_comm (a:=x)]
  rw [e]
  constructor
  ·rintro((h1|h1)|⟨w',h1,h2⟩)
   ·exact .inl h1
   ·exact .inr ⟨w,by simp,h1⟩
   ·exact .inr ⟨w',by simp [h1],h2⟩
  ·rintro(h1|⟨w',h1,h2⟩)
   ·exact .inl (.inl h1)
   ·rcases List.mem_cons.1 h1 with rfl|h1
    ·exact .inl (.inr h2)
    ·exact .inr ⟨w',h1,h2⟩
theorem mem_ownersL{ws:List Wy}{h:Nat}{x:Int}:x∈B2v ws h↔∃w∈ws,ow w.dusk h=x:=by
 unfold B2v;rw [mem_foldO];simp
theorem foldO_len{h:Nat}:∀{ws:List Wy} {acc:List Int},(ws.foldl (addO h) acc).length≤acc.length+ws.length
 | [],_=>by simp
 | w::ws,acc=>by
  rw [List.foldl_cons]
  refine Nat.le_trans foldO_len ?_
  have:(addO h acc w).length≤acc.length+1:=by unfold addO;split<;>simp
  simp only [List.length_cons];omega
theorem ownersL_len(ws:List Wy)(h:Nat):(B2v ws h).length≤ws.length:=by
 have:=foldO_len (h:=h) (ws:=ws) (acc:=[])
 simpa [B2v]using this
theorem B2w{h:Nat}:∀{ws:List Wy} {acc:List Int},acc.Nodup→(ws.foldl (addO h) acc).Nodup
 | [],_,h=>h
 | w::ws,acc,ha=>by
  rw [List.foldl_cons]
  refine B2w ?_
  unfold addO
  split
  ·exact ha
  ·rename_i hm
   rw [List.nodup_append]
   refine⟨ha,by simp,fun a h1 b h2 e=>?_⟩
   rw [List.mem_singleton]at h2
   subst h2;subst e
   exact hm h1
theorem nodup_ownersL(ws:List Wy)(h:Nat):(B2v ws h).Nodup:=B2w sM
theorem len_sub:∀{l m:List Int},l.Nodup→(∀x∈l,x∈m)→l.length≤m.length
 | [],_,_,_=>Nat.zero_le _
 | x::l,m,hn,h=>by
  have hx:=h x sM
  rw [List.nodup_cons]at hn
  have:=len_sub (l:=l) (m:=m.erase x) hn.2 fun y hy=>(List.mem_erase_of_ne (show y≠x from fun e=>hn.1 (by rw [←e];exact hy))).2 (h y (by simp [hy]))
  rw [List.length_erase_of_mem hx]at this
  have:=List.length_pos_of_mem hx
  simp only [List.length_cons];omega
theorem four{l:List Int}(hn:l.Nodup)(h:∀x∈l,0≤x∧x<4):l.length≤4:=by
 have hs:∀x∈l,x∈([0,1,2,3]:List Int):=fun x hx=>by
  have:=h x hx
  have e:x=0∨x=1∨x=2∨x=3:=oM
  rcases e with rfl|rfl|rfl|rfl<;>simp
 exact len_sub hn hs
def OwnersIs(P:Int)(d:List Int)(a b:List MA)(h:Int)(r:List Int×Int):Prop:=
 if(A5y P d a b (knows h d.length)).1≠0 then r=([],(A5y P d a b (knows h d.length)).1)
 else r.2=0∧r.1.Pairwise (· < ·)∧∀x,x∈r.1↔∃w∈A6k a b d,ow w.dusk h.toNat=x
theorem W.mem{a b:List MA}{os dk:List Int}{ms:List Nat}{bk:List MA}(h:W a b os ms bk dk){y:MA}(hy:y∈bk):y∈a∨y∈b:=by
 induction h with
 | nil=>cases hy
 | step g1 g2 _ _ ih=>
  rcases B2u g1 g2 with ⟨rfl,rfl,rfl⟩|⟨rfl,rfl,rfl⟩|⟨rfl,rfl,rfl⟩<;>rcases List.mem_cons.1 hy with rfl|hy
  ·exact .inl sM
  ·rcases ih hy with h|h
   ·exact .inl (by simp [h])
   ·exact .inr (by simp [h])
  ·exact .inl sM
  ·rcases ih hy with h|h
   ·exact .inl (by simp [h])
   ·exact .inr h
  ·exact .inr sM
  ·rcases ih hy with h|h
   ·exact .inl h
   ·exact .inr (by simp [h])
structure BestW(P:Int)(d:List Int)(a b:List MA)(u:Wy):Prop where
 w:∃ms,W a b d ms u.book u.dusk∧u.marks=ms.map fun k:Nat=>(k:Int)
 ok:HOk P d u.book
 len:u.dusk.length=d.length
 all:∀x∈u.dusk,0≤x∧x<P
theorem best_w{P:Int}{d:List Int}{a b:List MA}(hL:LOk P d a b){u:Wy}(hu:u∈A6k a b d):BestW P d a b u:=by
 obtain⟨ms,bk,dk,hW,rfl⟩:=mem_ways0.1 (mem_bests.1 hu).1
 have hge:=hW.ge
 have hlb:=hW.book_len
 have h1:=hL.la
 have h2:=hL.lb
 have hacts:∀x∈bk,Ok P d.length x:=fun x hx=>by
  rcases hW.mem hx with h|h
  ·exact hL.a x h
  ·exact hL.b x h
 have hd:=hW.dusk
 refine⟨⟨ms,hW,Y⟩,⟨hL.m,by show bk.length≤8;omega,hacts⟩,?_,?_⟩
 ·show dk.length=d.length
  rw [hd,A9w]
 ·show ∀x∈dk,0≤x∧x<P
  rw [hd]
  exact duskOf_in (N:=d.length) hL.m.all hacts
theorem best_ow{P:Int}{d:List Int}{a b:List MA}(hL:LOk P d a b){u:Wy}(hu:u∈A6k a b d){h:Nat}(hh:h<d.length):0≤ow u.dusk h∧ow u.dusk h<P:=by
 have hb:=best_w hL hu
 have hl:=hb.len
 have hlt:h<u.dusk.length:=oM
 rw [ow_get hlt]
 exact hb.all _ (List.getElem_mem hlt)
end Go.Pal.To
end
section
namespace Go.Proofs.YtclejblcnfaeaaaGreatDoor
open Go Go.Pal Go.Pal.To Go.Conc View
open Go.Proofs.Tryz
set_option maxHeartbeats 4000000
set_option maxRecDepth 20000
section
variable{mn:Who}{v:View}
theorem own_box{e:TypeId}{k:Nat}{seg:A0e}{a:Option Addr}{len cap:Nat}{xs:List Value}(h:OwnS e k seg a len cap xs)(hl:0<len):∃b c,seg=[(b,c,e)]∧a=some ⟨b,0,none⟩∧len≤cap∧c.size=cap*k∧∀(i:Nat) (x:Value),xs[i]?=some x→c[i]?=some x:=by
 cases h with
 | nil=>cases hl
 | @box b c _ _ _ h1 h2 h3 h4=>exact⟨b,c,rfl,rfl,h2,h3,h4⟩
end
end Go.Proofs.YtclejblcnfaeaaaGreatDoor
end
section
namespace Go.Pal
open Go Go.Conc View
section
variable{P:Program}{mn:Who}{rd:Option Nat}{n:Nat}{Q:Exit→St→View→Prop}{ds:List Deferred}{ρ:Regs}{β:A0e}{v:View}
 {ops:Array Oper}{i:Nat}{S:List Rec}{done done':List Nat}{ms:List Nat}{v0:View}{todo todo':List Nat}
theorem xop_moreC{ρτ ρσ:Regs}{βτ βσ βr βk:A0e}{d:Nat}{M:Value→A0e→Prop}{K:St→View→Prop}(hr:∀t x,ρτ.get t=some x→ρσ.get t=some x)(hβ:∀p,cnt p βσ=cnt p (βr++βτ))(hdst:∀o,ops[i]?=some o→o.dst=some d)(hdn:Nat.blt d n=true)
  (h:∀u,v.Le u→XOp P mn rd n ops i (fun _ _ _=>False) (fun σ' u'=>u'=u∧∃x βi,M x βi∧σ'=⟨ds,(d,x)::ρτ,βi++βk⟩) ⟨ds,ρτ,βτ⟩ u)
  (hK:∀x βi,M x βi→K ⟨ds,(d,x)::ρσ,(βi++βk)++βr⟩ v):XOp P mn rd n ops i (fun _ _ _=>False) K ⟨ds,ρσ,βσ⟩ v:=fun a hf hb=>by
 obtain⟨hb1,he⟩:=A3v (A2e (l:=βσ) (m:=βτ++βr) fun p=>by rw [hβ p,A0n,A0n];omega) hb
 obtain⟨hb2,hb3⟩:=bok_append.1 hb1
 obtain⟨o,ho,hw,hd,hs⟩:=h _ (A0g v (A0c βr)) a ⟨hf.size,hf.defers,fun t x e=>hf.get t x (hr t x e)⟩ hb3
 have hod:=hdst o ho
 have hdn':A2p n (some d)=true:=hdn
 refine⟨o,ho,hw,hd,?_⟩
 have key:∀{x0 w},KP n (fun σ' u'=>u'=v.union (A0c βr)∧∃x βi,M x βi∧σ'=⟨ds,(d,x)::ρτ,βi++βk⟩) (a.put o.dst x0) w→KP n K (a.put o.dst x0) w:=by
  rintro x0 w ⟨σ',u',⟨rfl,x,βi,hM,rfl⟩,hf',hb',hw'⟩
  have hg:∀(y:Value) (l:Regs),Regs.get ((d,y)::l) d=some y:=fun y l=>by simp [Regs.get]
  have hx:x0=x:=by
   have h1:=hf'.get d x (hg _ _)
   have h2:=(A0x (x:=x0) hf hdn').get d x0 (hg _ _)
   rw [hod]at h1
   exact Option.some.inj (h2.symm.trans h1)
  subst hx
  have hb4:Bok ((βi++βk)++βr) v:=bok_append.2 ⟨hb2,hb'⟩
  refine⟨⟨ds,(d,x0)::ρσ,(βi++βk)++βr⟩,v,hK _ _ hM,?_,hb4,?_⟩
  ·have:=A0x (x:=x0) hf hdn'
   rw [hod]
   exact⟨this.size,this.defers,this.get⟩
  ·show(v.union (A0c ((βi++βk)++βr))).Le w
   rw [A0v hb4]
   exact hw'
 show SemX P _ _ _ (v.union (A0c βσ))
 rw [←he,A0v hb1]
 refine A1y _ (fun nx w hK=>?_) (fun x w hE=>hE.elim fun _ h=>h.elim fun _ h=>h.1.elim) hs
 cases nx with
 | value x=>exact key hK
 | skip=>exact key hK
 | defer d'=>
  obtain⟨_,σ',u',⟨rfl,x,βi,hM,rfl⟩,hf',_⟩:=hK
  exfalso
  have h1:=hf'.defers
  have h2:=hf.defers
  simp only [Act.put]at h1
  rw [hod]at h1
  simp only at h1 h2
  rw [h2]at h1
  exact absurd (congrArg List.length h1) sM
 | enter f args=>exact CallsX.mono hK fun e w' hR=>⟨w',Le.refl _,by
   cases e with
   | ret x=>exact key hR
   | pan ch=>obtain⟨_,_,h,_⟩:=hR;exact h.elim⟩
 | round l f tmps assign body=>exact⟨hK.1,RoundX.mono hK.2 fun e w' hR=>⟨w',Le.refl _,by
   cases e with
   | ret x=>exact key hR
   | pan ch=>obtain⟨_,_,h,_⟩:=hR;exact h.elim⟩⟩
 | _=>exact hK.elim
variable{dst:Nat→Nat}{c:NetC}{W:List Nat}{ρ0:Regs}{β0:A0e}{j:Nat}{q:Value×A0e}
theorem netR_vals{c c':NetC}:∀{W:List Nat},(∀i∈W,(c i).map (·.1)=(c' i).map (·.1))→netR dst c ρ0 W=netR dst c' ρ0 W
 | [],_=>rfl
 | i::W,h=>by
  have h1:=h i (List.mem_cons_self ..)
  have ih:=netR_vals (c:=c) (c':=c') (W:=W) fun k hk=>h k (List.mem_cons_of_mem _ hk)
  simp only [netR]
  cases hc:c i<;>cases hc':c' i<;>rw [hc,hc']at h1<;>simp_all
theorem netβ_gone{c:NetC}:∀{W:List Nat},(∀i∈W,∀q,c i=some q→q.2=[])→netβ c β0 W=β0
 | [],_=>rfl
 | i::W,h=>by
  have ih:=netβ_gone (c:=c) (W:=W) fun k hk=>h k (List.mem_cons_of_mem _ hk)
  simp only [netβ]
  cases hc:c i with
  | none=>exact ih
  | some q=>simp only [h i (List.mem_cons_self ..) q hc,List.nil_append];exact ih
theorem inb_left{b:Nat}{cc:Array Value}{t:TypeId}{l r:A0e}(h:InB b cc t l):InB b cc t (l++r):=by
 induction h with
 | head=>exact .head
 | tail _ ih=>exact .tail ih
def netE(c:NetC)(l:List Nat):NetC:=fun i=>if i∈l then(c i).map fun q=>(q.1,[])else c i
theorem S_tree{Sp:Nat→Value→A0e→Prop}{pre:Nat→List Nat}(W:List Nat)(dst:Nat→Nat)(hW:W.Nodup)(hd:∀i∈W,∀k∈W,dst i=dst k→i=k)(h0:∀i∈W,ρ0.get (dst i)=none)(hpre:∀j∈W,pre j=W.filter fun i=>(pre j).contains i)
    (huq:∀j∈W,∀k∈W,∀i∈pre j,i∈pre k→j=k)
    (hop:∀i∈W,(∀o,ops[i]?=some o→o.dst=some (dst i))∧Nat.blt (dst i) n=true)(hS:KeepA S β0)(hB:netB ops ms W pre done W.length []=true)
    (hstep:∀j∈W,∀c:Nat→Value×A0e,(∀i∈pre j,Sp i (c i).1 (c i).2)→∀u,v.Le u→XOp P mn (some 4294967295) n ops j (fun _ _ _=>False) (fun σ' u'=>u'=u∧∃x βi,Sp j x βi∧σ'=⟨ds,(dst j,x)::netR dst (fun i=>some (c i)) ρ0 (pre j),βi++β0⟩) ⟨ds,netR dst (fun i=>some (c i)) ρ0 (pre j),netβ (fun i=>some (c i)) β0 (pre j)⟩ u)
    (hfin:∀c:Nat→Value×A0e,(∀i∈W,(W.all fun j=>!(pre j).contains i)=true→Sp i (c i).1 (c i).2)→(∀i∈W,(W.all fun j=>!(pre j).contains i)=false→(c i).2=[])→XS P mn n ops ms v0 Q todo S (W++done) ⟨ds,netR dst (fun i=>some (c i)) ρ0 W,netβ (fun i=>some (c i)) β0 W⟩ v) :
    XS P mn n ops ms v0 Q (W++todo) S done ⟨ds,ρ0,β0⟩ v:=by
  let tot:NetC→Nat→Value×A0e:=fun c i=>(c i).getD default
  have go:∀(k:Nat) (c:NetC),(∀i∈W,∀q,c i=some q→(∀k∈pre i,(c k).isSome=true)∧((∀j∈W,i∈pre j→c j=none)→Sp i q.1 q.2)∧((∃j∈W,i∈pre j∧(c j).isSome=true)→q.2=[]))→netB ops ms W pre done k (netS W c)=true→XS P mn n ops ms v0 Q (List.replicate k 0++todo) S (netS W c++done) ⟨ds,netR dst c ρ0 W,netβ c β0 W⟩ v:=by
    intro k
    induction k with
    | zero=>
      intro c hc hb
      have e:netS W c=W:=by simpa [netB]using hb
      have hsm:∀i∈W,(c i).isSome=true:=fun i hi=>(mem_netS.1 (e.symm ▸ hi:i∈netS W c)).2
      have hs:∀i∈W,c i=some (tot c i):=fun i hi=>by
        have:=hsm i hi
        cases hci:c i with
        | none=>rw [hci]at this;cases this
        | some q=>simp [tot,hci]
      have:=hfin (tot c) (fun i hi ha=>(hc i hi _ (hs i hi)).2.1 fun j hj hij=>by
          have:=List.all_eq_true.1 ha j hj
          simp [hij]at this) (fun i hi ha=>(hc i hi _ (hs i hi)).2.2 (by
          rw [List.all_eq_false]at ha
          obtain⟨j,hj,h⟩:=ha
          exact⟨j,hj,by simpa using h,hsm j hj⟩))
      rw [e,A9s hs,A9r hs]
      exact this
    | succ k ih=>
      intro c hc hb
      simp only [netB,Bool.and_eq_true]at hb
      obtain⟨hb1,hb2⟩:=hb
      have hall:∀j∈Region.ready .any ops (mkL ops (netS W c++done)),j∈W∧c j=none∧ms.contains j=true∧(∀i∈pre j,i∈netS W c)∧netB ops ms W pre done k (W.filter fun i=>Nat.beq i j||(netS W c).contains i)=true:=fun j hj=>by
        have h:=List.all_eq_true.1 hb2 j hj
        simp only [Bool.and_eq_true]at h
        obtain⟨⟨⟨⟨h1,h2⟩,h3⟩,h4⟩,h5⟩:=h
        have hjW:j∈W:=by simpa using h1
        have hjn:j∉netS W c:=by simpa using h2
        refine⟨hjW,?_,h3,fun i hi=>by simpa using List.all_eq_true.1 h4 i hi,h5⟩
        cases hcj:c j with
        | none=>rfl
        | some q=>exact absurd (mem_netS.2 ⟨hjW,by rw [hcj];rfl⟩) hjn
      refine S_many (Region.ready .any ops (mkL ops (netS W c++done))) ?_ (allL_of fun j hj=>?_)
      · simp only [manyB,Bool.and_eq_true]
        exact⟨⟨hb1,List.all_eq_true.2 fun j hj=>by simpa using hj⟩,List.all_eq_true.2 fun j hj=>(hall j hj).2.2.1⟩
      · obtain⟨hjW,hcj,_,hp,hn⟩:=hall j hj
        have hsub:∀i∈pre j,i∈W:=fun i hi=>(mem_netS.1 (hp i hi)).1
        have hsome:∀i∈pre j,c i=some (tot c i):=fun i hi=>by
          have h2:=(mem_netS.1 (hp i hi)).2
          cases hci:c i with
          | none=>rw [hci]at h2;cases h2
          | some q=>simp [tot,hci]
        have hpn:(pre j).Nodup:=by rw [hpre j hjW];exact hW.filter _
        have hjp:j∉pre j:=fun h=>by have:=hsome j h;rw [hcj]at this;cases this
        have hstep':=hstep j hjW (tot c) fun i hi=>(hc i (hsub i hi) _ (hsome i hi)).2.1 fun k hk hik=>by
          rw [huq k hk j hjW i hik hi];exact hcj
        rw [←A9s hsome,←A9r hsome]at hstep'
        refine xop_moreC (d:=dst j) (M:=Sp j) (βk:=β0) (ρτ:=netR dst c ρ0 (pre j)) (βτ:=netβ c β0 (pre j)) (βr:=netβ c [] (W.filter fun i=>!(pre j).contains i))
          (netR_get hW hd (pre j) (fun i hi=>mem_netS.1 (hp i hi)) hpn h0) (fun p=>by
            have h:=netβ_part (c:=c) (β0:=β0) (fun i=>(pre j).contains i) W p
            rw [←hpre j hjW]at h
            exact h) (hop j hjW).1 (hop j hjW).2 hstep' ?_
        intro x βi hM
        have hej:netE c (pre j) j=none:=by unfold netE;rw [if_neg hjp];exact hcj
        have hcnt:∀p,cnt p (netβ (netU (netE c (pre j)) j (x,βi)) β0 W)=cnt p ((βi++β0)++netβ c [] (W.filter fun i=>!(pre j).contains i)):=fun p=>by
          rw [netβ_put hW hjW hej p,A0n,netβ_part (c:=netE c (pre j)) (β0:=β0) (fun i=>(pre j).contains i) W p,A0n,A0n,A0n]
          rw [←hpre j hjW,netβ_gone (c:=netE c (pre j)) (W:=pre j) (fun i hi q hq=>by
            unfold netE at hq
            rw [if_pos hi]at hq
            rw [Option.map_eq_some_iff]at hq
            obtain⟨a,_,rfl⟩:=hq
            rfl)]
          rw [A9r (c:=netE c (pre j)) (c':=c) (W:=W.filter fun i=>!(pre j).contains i) (fun i hi=>by
            have h2:=(List.mem_filter.1 hi).2
            unfold netE
            rw [if_neg (by simpa using h2)])]
          show cnt p βi+(_+cnt p β0)=_
          omega
        refine⟨Le.refl _,?_,?_⟩
        · have hk:∀{βr:A0e} {S:List Rec},KeepA S β0→KeepS ops j S ((βi++β0)++βr):=by
            intro βr S
            induction S with
            | nil=>intro _;trivial
            | cons s S ihS=>
              obtain⟨_,_,_,_⟩:=s
              intro h
              exact⟨.inr (by rw [List.append_assoc];exact InB.app (inb_left h.1)),ihS h.2⟩
          exact hk hS
        have e:netS W (netU (netE c (pre j)) j (x,βi))=W.filter fun i=>Nat.beq i j||(netS W c).contains i:=by
          unfold netS
          refine List.filter_congr fun i hi=>?_
          by_cases hij:i=j
          · subst hij;rw [A8l,Nat.beq_refl];rfl
          · rw [A3a hij,show Nat.beq i j=false from by cases hb:Nat.beq i j with|false=>rfl|true=>exact absurd (Nat.eq_of_beq_eq_true hb) hij]
            rw [Bool.false_or]
            unfold netE
            by_cases hip:i∈pre j
            · rw [if_pos hip,hsome i hip]
              simp [hi,hsome i hip]
            · rw [if_neg hip]
              cases hci:c i with
              | none=>simp [hci]
              | some q=>simp [hci,hi]
        refine XS_by (ih (netU (netE c (pre j)) j (x,βi)) (fun i hi q hq=>?_) (by rw [e];exact hn)) (mkL_mem fun i=>?_) Y (fun t y hy=>?_) (fun p=>Nat.le_of_eq (hcnt p))
        · have hkeep:∀k,(netU (netE c (pre j)) j (x,βi) k).isSome=(decide (k=j)||(c k).isSome):=fun k=>by
            by_cases hkj:k=j
            · subst hkj;rw [A8l];simp
            · rw [A3a hkj]
              unfold netE
              by_cases hkp:k∈pre j
              · rw [if_pos hkp];simp [hkj]
              · rw [if_neg hkp];simp [hkj]
          by_cases hij:i=j
          · subst hij
            rw [A8l]at hq
            cases hq
            refine⟨fun k hk=>?_,fun _=>hM,fun⟨k,hk,hik,hks⟩=>?_⟩
            · rw [hkeep,hsome k hk];simp
            · exfalso
              rw [hkeep]at hks
              by_cases hki:k=i
              · subst hki;exact hjp hik
              · cases hck:c k with
                | none=>rw [hck]at hks;simp [hki]at hks
                | some qk=>
                  have:=(hc k hk qk hck).1 i hik
                  rw [hcj]at this
                  cases this
          · rw [A3a hij]at hq
            by_cases hip:i∈pre j
            · have hq':=hq
              unfold netE at hq'
              rw [if_pos hip,hsome i hip]at hq'
              cases hq'
              refine⟨fun k hk=>?_,fun h=>?_,fun _=>rfl⟩
              · rw [hkeep,(hc i hi _ (hsome i hip)).1 k hk];simp
              · have:=h j hjW hip
                rw [A8l]at this
                cases this
            · have hq':=hq
              unfold netE at hq'
              rw [if_neg hip]at hq'
              obtain⟨h1,h2,h3⟩:=hc i hi q hq'
              refine⟨fun k hk=>?_,fun h=>h2 fun k hk hik=>?_,fun⟨k,hk,hik,hks⟩=>h3 ⟨k,hk,hik,?_⟩⟩
              · rw [hkeep,h1 k hk];simp
              · have hh:=h k hk hik
                have:=hkeep k
                rw [hh]at this
                cases hck:c k with
                | none=>rfl
                | some qk=>rw [hck]at this;simp at this
              · rw [hkeep]at hks
                by_cases hkj:k=j
                · subst hkj;exact absurd hik hip
                · simpa [hkj]using hks
        · rw [e,List.mem_append,List.mem_cons,List.mem_append,List.mem_filter]
          constructor
          · rintro(⟨h1,h2⟩|h)
            · rw [Bool.or_eq_true]at h2
              rcases h2 with h2|h2
              · exact .inl (Nat.eq_of_beq_eq_true h2)
              · exact .inr (.inl (by simpa using h2))
            · exact .inr (.inr h)
          · rintro(rfl|h|h)
            · exact .inl ⟨hjW,by rw [Nat.beq_refl];rfl⟩
            · exact .inl ⟨(mem_netS.1 h).1,by rw [Bool.or_eq_true];exact .inr (by simpa using h)⟩
            · exact .inr h
        · have hv:netR dst (netU (netE c (pre j)) j (x,βi)) ρ0 W=netR dst (netU c j (x,βi)) ρ0 W:=netR_vals fun k _=>by
            by_cases hkj:k=j
            · subst hkj;rw [A8l,A8l]
            · rw [A3a hkj,A3a hkj]
              unfold netE
              by_cases hkp:k∈pre j
              · rw [if_pos hkp,Option.map_map];rfl
              · rw [if_neg hkp]
          rw [hv]at hy
          exact netR_put hW hjW hcj (fun i hi=>hd i hi j hjW) t y hy
  have hz:∀V:List Nat,netR dst (fun _=>none) ρ0 V=ρ0∧netβ (fun _=>none) β0 V=β0∧netS V (fun _=>none)=[]:=fun V=>by
    induction V with
    | nil=>exact⟨rfl,rfl,rfl⟩
    | cons i V ih=>exact⟨ih.1,ih.2.1,ih.2.2⟩
  obtain⟨z1,z2,z3⟩:=hz W
  have h1:=go W.length (fun _=>none) (fun _ _ _ h=>by cases h) (by rw [z3];exact hB)
  rw [z1,z2,z3]at h1
  exact XS_by h1 Y sM (fun _ _ h=>h) (fun _=>Nat.le_refl _)
end
end Go.Pal
end
section
namespace Go.Pal.To
open Go
def dg(c:UInt8):Prop:=48≤c.toNat∧c.toNat≤57
instance (c:UInt8):Decidable (dg c):=inferInstanceAs (Decidable (_∧_))
def notB:ByteArray:=⟨#[110,111,116]⟩
def lied(os:List Int)(x:MA)(p:Int):Bool:=x.k==2&&x.a==p && !(ownH os x.h==x.b)
def B2x:List Int→List MA→Int→Bool
 | _,[],_=>false
 | os,x::l,p=>lied os x p||B2x (doN os x) l p
theorem liesL_snoc:∀{l:List MA} {os:List Int} {x:MA} {p:Int},B2x os (l++[x]) p=(B2x os l p||lied (A3z os l) x p)
 | [],os,x,p=>by simp [B2x,A3z]
 | y::l,os,x,p=>by
  show(lied os y p||B2x (doN os y) (l++[x]) p)=((lied os y p||B2x (doN os y) l p)||lied (A3z (doN os y) l) x p)
  rw [liesL_snoc,Bool.or_assoc]
def B2y(n:Nat)(os:List Int)(l:List MA):List Int:=((List.range n).filter fun p:Nat=>B2x os l p).map fun p:Nat=>(p:Int)
def liarsR(P:Int)(d:List Int)(l:List MA):List Int×Int:=if holdE P d l≠0 then([],holdE P d l)else(B2y 4 d l,0)
theorem liarsL_succ(n:Nat)(os:List Int)(l:List MA):B2y (n+1) os l=if B2x os l n=true then B2y n os l++[(n:Int)]else B2y n os l:=by
 unfold B2y
 rw [List.range_succ,List.filter_append,List.map_append]
 by_cases h:B2x os l n=true
 ·rw [if_pos h];simp [h]
 ·rw [if_neg h];simp [h]
theorem liarsL_len(n:Nat)(os:List Int)(l:List MA):(B2y n os l).length≤n:=by
 unfold B2y
 rw [List.length_map]
 exact Nat.le_trans (List.length_filter_le _ _) sM
theorem reply_not{P:Int}{os:List Int}{x:MA}(hx:Ok P os.length x)(hk:x.k=2):B1q os x=notB↔¬ownH os x.h=x.b:=by
 unfold B1q
 rw [if_neg oM,if_pos hk]
 split
 ·rename_i h
  exact⟨fun e=>absurd e dM,fun e=>absurd h e⟩
 ·rename_i h
  exact⟨fun _=>h,fun _=>rfl⟩
end Go.Pal.To
end
section
namespace Go.Proofs.YtclejblcnfaeaaaGreatDoor
open Go Go.Pal Go.Pal.To Go.Conc View
open Go.Proofs.Tryz
set_option maxHeartbeats 4000000
set_option maxRecDepth 20000
def LiarsAt(u:View)(x:Value)(r:List Int×Int):Prop:=∃a c,x = .tuple (List.toArray [.slice a r.1.length c,intV r.2])∧RowAt u a (r.1.map intV)
def lvC(f:Int→Bool):Array Value:=List.toArray [.bool (f 0),.bool (f 1),.bool (f 2),.bool (f 3)]
theorem lvC_set{f:Int→Bool}{j:Nat}(h:j<4):lvC (fun p=>f p||(j:Int)==p)=(putV (lvC f).toList (0+j*1) (Value.bool true).cells.toList).toArray:=by
 show _=(putV (lvC f).toList (0+j*1) [Value.bool true]).toArray
 rcases (by omega:j=0∨j=1∨j=2∨j=3)with rfl|rfl|rfl|rfl<;>simp [lvC,putV]
theorem lvC_get{f:Int→Bool}{j:Nat}(h:j<4):partOf tab 4 (lvC f) (j*1)=some (.bool (f j)):=by
 rcases (by omega:j=0∨j=1∨j=2∨j=3)with rfl|rfl|rfl|rfl<;>rfl
theorem lied_not{os:List Int}{x:MA}(h:¬(x.k=2∧¬ownH os x.h=x.b))(p:Int):lied os x p=false:=by
 unfold lied
 by_cases hk:x.k=2
 ·have:ownH os x.h=x.b:=Classical.byContradiction fun e=>h ⟨hk,e⟩
  simp [this]
 ·simp [hk]
theorem lied_of{os:List Int}{x:MA}(hk:x.k=2)(h:¬ownH os x.h=x.b)(p:Int):lied os x p=(x.a==p):=by
 unfold lied
 simp [hk,h]
structure LiS where
 i:Nat
 sg:A0e
 a:Option Addr
 cap:Nat
section
variable{mn:Who}{v:View}{P:Int}{aD aA:Option Addr}{cD cA:Nat}{d:List Int}{a:List MA}
theorem liars_x(hd:RowAt v aD (d.map intV))(ha:ActsAt v aA a)(hok:HOk P d a) :
  A6l prog mn 25 [moV P aD d.length cD,.slice aA a.length cA] (fun x u=>LiarsAt u x (B2y 4 d a,0)) v:=by
 have hll:=hok.len
 have hdl:=hok.m.len
 refine A3k tab func25 Y nB (args:=[_,_]) ?_
 refine sw fun bx=>?_
 obtain⟨b2,rfl⟩:∃x:Nat,x=bx:=⟨bx,rfl⟩
 refine Q_op fun ho=>A1p ho bod10 Y Y Y Y Y (hold_ok (cD:=cD) (cA:=cA) hd ha hok) (fun x w hl hx=>?_)
 clear ho
 obtain⟨ar,cr,ad,cd,rfl,h2,h3⟩:=hx
 clear h3
 replace ha:=ha.le hl
 refine sw fun bx=>?_
 refine A1q (α:=Nat) (fun i=>⟨[],[(29,.int .i64 i),(28,.int .i64 a.length),(27,.slice ar a.length cr),(1,.slice aA a.length cA),(9,.pointer (some ⟨bx,0,none⟩))],[(bx,lvC (B2x d (a.take i)),137)]⟩)
  (fun i u=>u=w∧i≤a.length) (fun i=>a.length-i) 0 ⟨Y,rg,show Subm [(bx,lvC (B2x d []),137)] [(bx,lvC (B2x d []),137),(b2,(moV P aD d.length cD).cells,26)]from cntL⟩ (Le.refl _) ⟨Y,Nat.zero_le _⟩ ?_
 obtain⟨b9,rfl⟩:∃x:Nat,x=bx:=⟨bx,rfl⟩
 rintro i u ⟨rfl,hi⟩
 refine su ?_
 refine A1i Y (fun h=>?_) (fun h=>?_)
 ·replace h:=fa h
  have hlt:i<a.length:=oM
  have hri:i<(B0g d a).length:=by rw [repsOf_len];exact hlt
  obtain⟨bb,off,p,c,e,f,rfl,hv,hc⟩:=ha.get hlt
  obtain⟨b1,o1,p1,c1,e1,f1,rfl,hv1,hc1⟩:=h2.get hri
  have hg:(B0g d a)[i]=B1q (A3z d (a.take i)) a[i]:=by
   have:=repsOf_get (os:=d) hlt
   rw [List.getElem?_eq_some_iff]at this
   exact this.2
  have hact:=hok.all _ (List.getElem_mem hlt)
  have hdl2:=A9w (a.take i) d
  rw [←hdl2]at hact
  have htk:a.take (i+1)=a.take i++[a[i]]:=List.take_succ_eq_append_getElem hlt
  have hci:=hc i hlt
  have hci1:=hc1 i hri
  rw [hg]at hci1
  have hls:∀p,B2x d (a.take (i+1)) p=(B2x d (a.take i) p||lied (A3z d (a.take i)) a[i] p):=fun p=>by rw [htk,liesL_snoc]
  generalize a[i]=y at hact hci hci1 hls
  generalize A3z d (a.take i)=os at hact hci1 hls
  have hno:¬(y.k=2∧¬ownH os y.h=y.b)→lvC (B2x d (a.take (i+1)))=lvC (B2x d (a.take i)):=fun h=>by
   unfold lvC
   simp only [hls,lied_not h,Bool.or_false]
  refine su ?_
  refine A6d tab i Y Y Y Y Y Y Y hlt ?_
  refine A2b tab Y Y Y hv1 (A0l tab Y Y Y (by rw [Nat.mul_one];exact hci1)) ?_
  refine su ?_
  refine A6d tab i Y Y Y Y Y Y Y hlt ?_
  refine A2b tab Y Y Y hv (A1g tab Y Y Y hci) ?_
  refine Q_op fun ho=>A0u ho bod60 Y Y Y Y Y (deedOf_x (x:=y) hact.k) ?_
  clear ho
  by_cases hk:y.k=2
  ·have hab:=hact.ab oM
   have hP4:=hok.m.p
   obtain⟨j,hj,hj4⟩:∃j:Nat,y.a=j∧j<4:=⟨y.a.toNat,oM,oM⟩
   have hrn:=reply_not hact hk
   rw [show y.deed = .iface 139 (.agg (List.toArray [intV y.a,intV y.b,intV y.h]))from by unfold MA.deed;rw [if_neg oM,if_pos hk]]
   refine sw fun bx=>?_
   by_cases hw:ownH os y.h=y.b
   ·rw [string_ne ({data:=#[110,111,116] }:ByteArray) (fun e=>hrn.1 e hw)]
    refine su ?_
    refine A0b ⟨i+1,u,oM,⟨Y,rg,?_⟩,Le.refl _,Y,hlt⟩
    rw [hno (fun h=>h.2 hw)]
    exact cntL
   ·rw [hrn.2 hw]
    rw [show(notB.toList==({data:=#[110,111,116] }:ByteArray).toList)=true from beq_self_eq_true _]
    have hlv:lvC (B2x d (a.take (i+1)))=lvC (fun p=>B2x d (a.take i) p||(j:Int)==p):=by
     unfold lvC
     simp only [hls,lied_of hk hw,hj]
    rw [hj]
    refine su ?_
    refine Q_elemA tab j Y Y Y Y Y Y Y hj4 ?_
    refine Q_op fun ho=>A2q tab ho Y Y Y Y Y Y ib (by apply Nat.ble_eq_true_of_le;show 0+j*1+1≤4;omega) sb ?_
    refine su ?_
    refine A0b ⟨i+1,u,oM,⟨Y,rg,?_⟩,Le.refl _,Y,hlt⟩
    rw [hlv,lvC_set hj4]
    exact cntL
  ·have hnk:=hno (fun h=>hk h.1)
   rcases hact.k with h0|h0|h0
   ·rw [show y.deed = .iface 113 (.agg (List.toArray [intV y.a,intV y.b,intV y.h]))from by unfold MA.deed;rw [if_pos h0]]
    refine sw fun bx=>?_
    refine A0b ⟨i+1,u,oM,⟨Y,rg,?_⟩,Le.refl _,Y,hlt⟩
    rw [hnk]
    exact cntL
   ·rw [show y.deed = .iface 202 (.agg (List.toArray [intV y.h]))from by unfold MA.deed;rw [if_neg oM,if_neg hk]]
    refine sw fun bx=>?_
    refine A0b ⟨i+1,u,oM,⟨Y,rg,?_⟩,Le.refl _,Y,hlt⟩
    rw [hnk]
    exact cntL
   ·exact absurd h0 hk
 ·replace h:=fa h
  obtain rfl:i=a.length:=oM
  rw [List.take_length]
  refine su ?_
  refine A1q (α:=LiS) (fun z=>⟨[],[(53,.int .i64 z.i),(52,.agg (lvC (B2x d a))),(14,.slice z.a (B2y z.i d a).length z.cap)],z.sg⟩)
   (fun z w=>w=u∧z.i≤4∧OwnS 3 1 z.sg z.a (B2y z.i d a).length z.cap ((B2y z.i d a).map intV)) (fun z=>4-z.i) ⟨0,[],none,0⟩ ⟨Y,rg,cntL⟩ (Le.refl _) ⟨Y,Nat.zero_le _,.nil⟩ ?_
  rintro⟨i,sg,ag,cap⟩ w ⟨rfl,hi4,hS⟩
  simp only at hi4 hS
  dsimp only
  refine su ?_
  refine A1i Y (fun hlt=>?_) (fun hlt=>?_)
  ·simp only [decide_eq_true_eq]at hlt
   have hlt:i<4:=oM
   have hsu:=liarsL_succ i d a
   have hln:=liarsL_len i d a
   refine su ?_
   refine Q_op fun ho=>A_indexA tab (j:=i) ho Y Y Y Y Y Y Y hlt (lvC_get hlt) ?_
   clear ho
   cases hb:B2x d a i with
   | false=>
    rw [hb,if_neg dM]at hsu
    refine su ?_
    refine A0b ⟨⟨i+1,sg,ag,cap⟩,w,by simp only;omega,⟨Y,?_,cntL⟩,Le.refl _,Y,hlt,?_⟩
    ·simp only [hsu]
     exact rg
    ·simp only [hsu];exact hS
   | true=>
    rw [hb,if_pos rfl]at hsu
    refine su ?_
    refine Q_op fun ho=>A3w tab ho Y Y Y Y Y Y Y Y Y (fun b3 c3 hL=>?_)
    clear ho
    refine Q_op fun ho=>A3x tab (xs:=[intV i]) sg [(b3,c3,3)] [] ho Y Y Y Y Y Y Y Y Y Y (show ∀p,Pal.cnt p ((b3,c3,3)::sg)=Pal.cnt p (sg++([(b3,c3,3)]++[]))from cntA) hS
     (fun hb=>RowAt.own hb cntL hL) Y Y (by show(2*((B2y i d a).length+1)+768)*8≤2^48;omega) oM (fun sg' a' cap' hS'=>?_)
    clear ho
    refine su ?_
    refine A0b ⟨⟨i+1,sg',a',cap'⟩,w,by simp only;omega,⟨Y,?_,cntL⟩,Le.refl _,Y,hlt,?_⟩
    ·simp only [hsu,List.length_append]
     exact rg
    ·simp only [hsu,List.length_append,List.map_append];exact hS'
  ·obtain rfl:i=4:=by simp only [decide_eq_false_iff_not]at hlt;omega
   refine su ?_
   refine A2m tab (by exact .tmp rfl (.tmp rfl .nil)) hl fun hb hle'=>?_
   exact⟨ag,cap,Y,RowAt.own hb (by exact cntL) hS⟩
end
section
variable{mn:Who}{v:View}{P:Int}{aD aA:Option Addr}{cD cA:Nat}{d:List Int}{a:List MA}
theorem liarsP_x(hd:RowAt v aD (d.map intV))(hdl:d.length<2^30)(ha:ActsAt v aA a)(hal:a.length<2^30) :
  A6l prog mn 25 [moV P aD d.length cD,.slice aA a.length cA] (fun x u=>LiarsAt u x (liarsR P d a)) v:=by
 by_cases h:holdE P d a=0
 ·unfold liarsR
  rw [if_neg (by simpa using h)]
  exact liars_x hd ha (holdE_ok.1 h)
 ·refine A3k tab func25 Y nB (args:=[_,_]) ?_
  refine sw fun bx=>?_
  refine Q_op fun ho=>A1p ho bod10 Y Y Y Y Y (hold_x (cD:=cD) (cA:=cA) hd hdl ha hal) (fun x w hl hx=>?_)
  clear ho
  unfold holdR at hx
  unfold liarsR
  rw [if_pos h]at hx⊢
  obtain⟨ar,kr,ad,kd,rfl,h2,h3⟩:=hx
  refine su ?_
  rw [show(holdE P d a != 0)=true from by simpa using h]
  refine su ?_
  refine A2m tab (by exact .tmp rfl (.tmp rfl .nil)) hl fun hb2 hle=>?_
  exact⟨none,0,Y,.inl Y⟩
end
end Go.Proofs.YtclejblcnfaeaaaGreatDoor
end
section
namespace Go.Pal.To
open Go
def B2z:List Int→List MA→List MA
 | _,[]=>[]
 | os,x::l=>if sold os x then x::B2z (doN os x) l else B2z (doN os x) l
theorem dealsT_snoc:∀{l:List MA} {os:List Int} {x:MA},B2z os (l++[x])=B2z os l++if sold (A3z os l) x then [x]else []
 | [],os,x=>by
  by_cases h:sold os x=true<;>simp [B2z,A3z,h]
 | y::l,os,x=>by
  show B2z os (y::(l++[x]))=_
  unfold B2z
  rw [dealsT_snoc]
  by_cases h:sold os y=true
  ·rw [if_pos h,if_pos h];rfl
  ·rw [if_neg h,if_neg h];rfl
theorem dealsT_len:∀{l:List MA} {os:List Int},(B2z os l).length≤l.length
 | [],_=>Nat.le_refl _
 | x::l,os=>by
  have:=dealsT_len (l:=l) (os:=doN os x)
  unfold B2z
  split
  ·simp only [List.length_cons];omega
  ·simp only [List.length_cons];omega
def tradeR(P:Int)(d:List Int)(l:List MA):Int×List Int×List MA×Int:=
 if holdE P d l≠0 then(0,[],[],holdE P d l)else if(B2z d l).length > 6 then(0,[],[],6)else(P,d,B2z d l,0)
end Go.Pal.To
end
section
namespace Go.Proofs.YtclejblcnfaeaaaGreatDoor
open Go Go.Pal Go.Pal.To Go.Conc View
open Go.Proofs.Tryz
set_option maxHeartbeats 4000000
set_option maxRecDepth 20000
def OwnI(e:TypeId)(k:Nat)(x:Value)(β:A0e)(len:Nat)(cs:List Value):Prop:=∃a c,x = .slice a len c∧OwnS e k β a len c cs
abbrev trC(P:Int)(ad:Option Addr)(nd cd:Nat)(aq:Option Addr)(n cq:Nat):Array Value:=List.toArray [intV P,.slice ad nd cd,.slice aq n cq]
abbrev trZ:Array Value:=List.toArray [intV 0,.slice none 0 0,.slice none 0 0]
def DealAt(u:View)(y:List Value)(x:MA):Prop:=∃ah ch,y=[intV x.a,intV x.b,.slice ah 1 ch]∧RowAt u ah [intV x.h]
def DlsAt(u:View)(ys:List (List Value))(l:List MA):Prop:=ys.length=l.length∧∀(i:Nat) (y:List Value) (x:MA),ys[i]?=some y→l[i]?=some x→DealAt u y x
theorem DlsAt.nil{u:View}:DlsAt u [] []:=⟨Y,fun i y x h=>by simp at h⟩
theorem DlsAt.le{u w:View}{ys:List (List Value)}{l:List MA}(h:DlsAt u ys l)(hl:u.Le w):DlsAt w ys l:=⟨h.1,fun i y x h1 h2=>by
 obtain⟨ah,ch,e,hr⟩:=h.2 i y x h1 h2
 exact⟨ah,ch,e,hr.le hl⟩⟩
theorem DlsAt.snoc{u:View}{ys:List (List Value)}{l:List MA}{y:List Value}{x:MA}(h:DlsAt u ys l)(hy:DealAt u y x):DlsAt u (ys++[y]) (l++[x]):=by
 refine⟨by simp [h.1],fun i y' x' h1 h2=>?_⟩
 rcases Nat.lt_trichotomy i ys.length with hlt|heq|hgt
 ·rw [List.getElem?_append_left hlt]at h1
  rw [List.getElem?_append_left (by rw [←h.1];exact hlt)]at h2
  exact h.2 i y' x' h1 h2
 ·subst heq
  rw [List.getElem?_append_right (Nat.le_refl _),Nat.sub_self]at h1
  rw [h.1,List.getElem?_append_right (Nat.le_refl _),Nat.sub_self]at h2
  cases h1;cases h2;exact hy
 ·rw [List.getElem?_eq_none (by simp;omega)]at h1
  cases h1
def TradeAt(u:View)(x:Value)(r:Int×List Int×List MA×Int):Prop:=∃ad cd aq cq ys,x = .tuple (List.toArray [.agg (trC r.1 ad r.2.1.length cd aq r.2.2.1.length cq),intV r.2.2.2])∧RowAt u ad (r.2.1.map intV)∧RowAt u aq ys.flatten∧DlsAt u ys r.2.2.1
theorem TradeAt.none{u:View}{e:Int}:TradeAt u (.tuple (List.toArray [.agg trZ,intV e])) (0,[],[],e):=⟨Option.none,0,Option.none,0,[],Y,.inl Y,.inl Y,DlsAt.nil⟩
theorem putV_tr{P:Int}{ad aq:Option Addr}{nd cd n cq:Nat}:(putV trZ.toList 0 (Value.agg (trC P ad nd cd aq n cq)).cells.toList).toArray=trC P ad nd cd aq n cq:=rfl
structure TrS where
 i:Nat
 sg:A0e
 a:Option Addr
 cap:Nat
 ys:List (List Value)
end Go.Proofs.YtclejblcnfaeaaaGreatDoor
end
