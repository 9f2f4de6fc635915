/- Part 49. -/
import Derived.ChangeSame
import Derived.Deep.Fields
import Derived.Deep.Slices
import Derived.Lib.SmallJoins
import Derived.Test.YtclejblcnfaeaaaGreatQstrucksb
set_option linter.all false
section
namespace Go.Proofs.YtclejblcnfaeaaaGreat
open Go Go.Pal Go.Pal.To Go.Conc Go.ConcM Go.RowKit Go.ChangeShapes Go.WideShapes Go.ChangeAt Go.Deep
set_option maxHeartbeats 4000000
set_option maxRecDepth 100000
structure Opened(W:World)(v:View):Prop where
 ag:v.Agree W
 ro:∀b,¬v.Owns b
theorem opened0(W:World):Opened W (fun _=>none):=⟨(fun b p o h=>nomatch (show none=some (p,o)from h)),(fun b h=>by obtain⟨o,h⟩:=h;cases h)⟩
theorem Opened.both{W:World}{u v:View}(hu:Opened W u)(hv:Opened W v):Opened W (u.union v)∧u.Le (u.union v)∧v.Le (u.union v):=by
 have key:∀b,(u.union v) b=u b∨(u.union v) b=v b:=fun b=>by
  unfold View.union
  cases u b with
  | none=>exact .inr rfl
  | some x=>exact .inl rfl
 refine⟨⟨fun b p o h=>?_,fun b h=>?_⟩,(fun b x h=>by unfold View.union;rw [h]),fun b x h=>?_⟩
 ·rcases key b with e|e
  ·exact hu.ag b p o (e ▸ h)
  ·exact hv.ag b p o (e ▸ h)
 ·obtain⟨o,h⟩:=h
  rcases key b with e|e
  ·exact hu.ro b ⟨o,e ▸ h⟩
  ·exact hv.ro b ⟨o,e ▸ h⟩
 ·unfold View.union
  cases hb:u b with
  | none=>exact h
  | some y=>
   obtain⟨p,o⟩:=y
   obtain⟨p',o'⟩:=x
   have e1:=hu.ag b p o hb
   have e2:=hv.ag b p' o' h
   rw [e1]at e2
   cases e2
   have f1:p=false:=by
    cases p with
    | false=>rfl
    | true=>exact absurd ⟨_,hb⟩ (hu.ro b)
   have f2:p'=false:=by
    cases p' with
    | false=>rfl
    | true=>exact absurd ⟨_,h⟩ (hv.ro b)
   rw [f1,f2]
theorem row_view{W:World}{a:Addr}{cs:List Value}(hc:∀(i:Nat) (x:Value),cs[i]?=some x→W.cell? (a.add i)=some x):∃v,Opened W v∧RowAt v (some a) cs:=by
 cases cs with
 | nil=>exact⟨_,opened0 W,.inl rfl⟩
 | cons y l=>
  obtain⟨b,off,spot⟩:=a
  have h00:=hc 0 y Y
  have hspot:spot=none:=by simpa [Addr.add]using World.cell?_spot h00
  subst hspot
  have hc':∀(i:Nat) (x:Value),(y::l)[i]?=some x→W.cell? ⟨b,off+i,none⟩=some x:=fun i x hi=>by
   have:=hc i x hi
   rwa [add_plain]at this
  obtain⟨c,e,f,hO⟩:∃c e f,W.heap[b]?=some (.cells c e f):=by
   have:=hc' 0 y Y
   unfold World.cell? at this
   split at this
   ·rename_i c e f h;exact⟨c,e,f,h⟩
   ·cases this
  have hcc:∀(i:Nat) (x:Value),(y::l)[i]?=some x→c[off+i]?=some x:=fun i x hi=>by
   have:=hc' i x hi
   unfold World.cell? at this
   rw [hO]at this
   simpa using this
  refine⟨fun k=>if k=b then some (false,.cells c e f)else none,⟨fun k p o h=>?_,fun k h=>?_⟩,.inr ⟨b,off,false,c,e,f,Y,if_pos Y,?_,hcc⟩⟩
  ·replace h:(if k=b then some (false,Obj.cells c e f)else none)=some (p,o):=h
   by_cases hk:k=b
   ·subst hk
    rw [if_pos rfl]at h
    cases h
    exact hO
   ·rw [if_neg hk]at h;cases h
  ·obtain⟨o,h⟩:=h
   replace h:(if k=b then some (false,Obj.cells c e f)else none)=some (true,o):=h
   by_cases hk:k=b
   ·rw [if_pos hk]at h;cases h
   ·rw [if_neg hk]at h;cases h
  ·have h1:=hcc l.length ((y::l)[l.length]' sM) (List.getElem?_eq_getElem _)
   have h2:=(Array.getElem?_eq_some_iff.1 h1).1
   simp only [List.length_cons]
   omega
theorem list_of{α:Type}{n:Nat}{p:Nat→α→Prop}(h:∀i,i<n→∃x,p i x):∃l:List α,l.length=n∧∀i (hi:i<l.length),p i l[i]:=by
 induction n with
 | zero=>exact⟨[],rfl,fun i hi=>absurd hi (Nat.not_lt_zero _)⟩
 | succ n ih=>
  obtain⟨l,hl,hp⟩:=ih fun i hi=>h i oM
  obtain⟨x,hx⟩:=h n oM
  refine⟨l++[x],by simp [hl],fun i hi=>?_⟩
  by_cases e:i<l.length
  ·rw [List.getElem_append_left e];exact hp i e
  ·have hi':i=l.length:=by simp at hi;omega
   subst hi'
   simp
   rw [hl];exact hx
theorem acts_at:∀{ws:List MA} {k:Nat} {y:Value},(ws.map MA.cells).flatten[k]?=some y→∃(i:Nat) (hi:i<ws.length) (j:Nat),j<4∧k=i*4+j∧(MA.cells ws[i])[j]?=some y
 | [],k,y,h=>by simp at h
 | x::ws,k,y,h=>by
  rw [List.map_cons,List.flatten_cons]at h
  by_cases hk:k<4
  ·rw [List.getElem?_append_left (by exact hk)]at h
   exact⟨0,by simp,k,hk,oM,h⟩
  ·rw [List.getElem?_append_right (by show 4≤k;omega)]at h
   obtain⟨i,hi,j,hj,e,hx⟩:=acts_at h
   have e':k-4=i*4+j:=e
   exact⟨i+1,by simp;omega,j,hj,oM,by simpa using hx⟩
section
variable{H:Type}{enc:TypeId×Value→H}{P:Program}{w:World}{base:Nat}{spare:Nat→Bool}{held:Bool}
theorem B3i{t e:TypeId}{fs:Array Field}{fuel:Nat}{cs:List Value}{x:DataW H×List MemPlace}(ht:P.underlying t=some (.slice e))(he:P.underlying e=some (.struct fs))
  (hone:oneCellFields P fs=true)(hC:P.cellsOf e=fs.size)(h:DataW.trod enc P w base spare held fuel t cs=some x) :
  (cs=[.slice none 0 0]∧x=(.nil,[]))∨
  ∃ (a:Addr) (len cap m:Nat),cs=[.slice (some a) len cap]∧len≤cap∧m=(if spare a.block then cap else len)∧
   ∀i,i<m→∃n:Nat,∀(j:Nat) (f:Field),fs[j]?=some f→∃(v:Value) (y:DataW H×List MemPlace),w.cell? (a.add (i*fs.size+j))=some v∧DataW.trod enc P w base spare held n f.type [v]=some y:=by
 rcases open_slice ht h with h0|⟨a,len,cap,m,n,D,Pl,hcs,hb,hl,hm,hmm,hx,hi⟩
 ·exact .inl h0
 ·refine .inr ⟨a,len,cap,m,hcs,hl,hmm,fun i him=>?_⟩
  obtain⟨cs',hc,ht'⟩:=hi i him
  rw [hC]at hc
  obtain⟨ys,n',hn',hy,hlen,hyl,hf⟩:=DataW.trod_struct he ht'
  obtain⟨_,hcl,hat⟩:=World.cells?_some hc
  refine⟨n',fun j f hj=>?_⟩
  obtain⟨ho,hk⟩:=hone_of hone j f hj
  have hjl:j<fs.size:=(Array.getElem?_eq_some_iff.1 hj).1
  have hcell:=hat j hjl
  have hv:cs'[j]?=some (cs'[j]' oM):=List.getElem?_eq_getElem oM
  have h1:=hf j f hj
  rw [ho,hk]at h1
  have hone':(cs'.drop j).take 1=[cs'[j]' oM]:=by
   rw [List.drop_eq_getElem_cons oM]
   rfl
  rw [hone']at h1
  have hys:ys[j]?=some (ys[j]' oM):=List.getElem?_eq_getElem oM
  refine⟨_,_,?_,h1.trans hys⟩
  rw [←Go.Deep.add_add,hcell,hv]
end
section
variable{H:Type}{enc:TypeId×Value→H}{W:World}
theorem ints_view{fuel:Nat}{c:Value}{x:DataW H×List MemPlace}(h:DataW.trod enc Tryz.prog W 0 (fun _=>true) true fuel 22 [c]=some x):∃(a:Option Addr) (cap:Nat) (ns:List Int) (v:View),c = .slice a ns.length cap∧Opened W v∧RowAt v a (ns.map (.int .i64)):=by
 rcases open_ints Tryz.underlying22 Tryz.underlying3 cells3 h with ⟨hcs,hx⟩|⟨a,len,cap,zs,hcs,_,hl,hm,hz,hx,hcell,hwz⟩
 ·cases hcs
  exact⟨none,0,[],_,Y,opened0 W,.inl Y⟩
 ·cases hcs
  simp only [if_true]at hz
  have hlen:(zs.take len).length=len:=by rw [List.length_take];omega
  obtain⟨v,hv,hr⟩:=row_view (W:=W) (a:=a) (cs:=(zs.take len).map (.int .i64)) fun i x hi=>by
   rw [List.getElem?_map,Option.map_eq_some_iff]at hi
   obtain⟨y,hy,rfl⟩:=hi
   rw [List.getElem?_take]at hy
   split at hy
   ·rw [hcell i oM,List.getD_eq_getElem?_getD,hy];rfl
   ·cases hy
  exact⟨some a,cap,zs.take len,v,by rw [hlen],hv,hr⟩
theorem cells26:Tryz.prog.cellsOf 26=4:=by kernel_rfl
theorem words_view{fuel:Nat}{c:Value}{x:DataW H×List MemPlace}(h:DataW.trod enc Tryz.prog W 0 (fun _=>true) true fuel 42 [c]=some x):∃(a:Option Addr) (cap:Nat) (ws:List MA) (v:View),c = .slice a ws.length cap∧ws.length≤cap∧Opened W v∧ActsAt v a ws:=by
 rcases B3i Tryz.underlying42 Tryz.underlying26 kR cells26 h with ⟨hcs,hx⟩|⟨a,len,cap,m,hcs,hl,hm,hf⟩
 ·cases hcs
  exact⟨none,0,[],_,Y,Nat.le_refl _,opened0 W,.inl Y⟩
 ·cases hcs
  simp only [if_true]at hm
  subst hm
  obtain⟨ws,hws,hp⟩:=list_of (α:=MA) (n:=len) (p:=fun i x=>∀(j:Nat) (y:Value),(MA.cells x)[j]?=some y→W.cell? (a.add (i*4+j))=some y) fun i hi=>by
   obtain⟨n,hj⟩:=hf i oM
   obtain⟨v0,y0,k0,t0⟩:=hj 0 _ rfl
   obtain⟨v1,y1,k1,t1⟩:=hj 1 _ rfl
   obtain⟨v2,y2,k2,t2⟩:=hj 2 _ rfl
   obtain⟨v3,y3,k3,t3⟩:=hj 3 _ rfl
   obtain⟨n0,e0,-,-⟩:=DataW.trod_int Tryz.underlying3 t0
   obtain⟨n1,e1,-,-⟩:=DataW.trod_int Tryz.underlying3 t1
   obtain⟨n2,e2,-,-⟩:=DataW.trod_int Tryz.underlying3 t2
   obtain⟨n3,e3,-,-⟩:=DataW.trod_int Tryz.underlying3 t3
   cases e0
   cases e1
   cases e2
   cases e3
   refine⟨⟨n0,n1,n2,n3⟩,fun j y hy=>?_⟩
   match j,hy with
   | 0,hy=>cases hy;exact k0
   | 1,hy=>cases hy;exact k1
   | 2,hy=>cases hy;exact k2
   | 3,hy=>cases hy;exact k3
   | j+4,hy=>exact absurd hy (by simp [MA.cells])
  obtain⟨v,hv,hr⟩:=row_view (W:=W) (a:=a) (cs:=(ws.map MA.cells).flatten) fun k y hk=>by
   obtain⟨i,hi,j,hj,rfl,hx⟩:=acts_at hk
   exact hp i hi j y hx
  exact⟨some a,m,ws,v,by rw [hws],oM,hv,hr⟩
theorem row24:Tryz.prog.readableRec 24=true:=by kernel_rfl
theorem lt24:24<Tryz.prog.types.size:=of_decide_eq_true kR
theorem row26:Tryz.prog.readableRec 26=true:=by kernel_rfl
theorem lt26:26<Tryz.prog.types.size:=of_decide_eq_true kR
theorem row42:Tryz.prog.readableRec 42=true:=by kernel_rfl
theorem lt42:42<Tryz.prog.types.size:=of_decide_eq_true kR
variable{base:Nat}{v0:Value}{d0:DataW H}{p:List MemPlace}
def Still(enc:TypeId×Value→H)(W:World)(t:TypeId)(v0:Value)(d0:DataW H)(p:List MemPlace):Prop:=∀w':World,Below W.heap.size W w'→DataW.Trod enc Tryz.prog w' 0 (fun b=>decide (b<W.heap.size)) true t v0 d0 p
theorem openM(hval:Value.okWide Tryz.prog W .any base 24 v0)(h0:DataW.Trod enc Tryz.prog W 0 (fun _=>true) true 24 v0 d0 p)(hlt:∀x∈p,x.block<W.heap.size) :
  ∃(P:Int) (a:Option Addr) (d:List Int) (cap:Nat) (v:View),v0=moV P a d.length cap∧Opened W v∧RowAt v a (d.map intV)∧Still enc W 24 v0 d0 p:=by
 have hargs:Still enc W 24 v0 d0 p:=fun w' hb=>Below.trod laid row24 lt24 h0 hb hlt
 obtain⟨c0,c1,y0,y1,n,rfl,-,-,t0,t1⟩:=Go.Joins.open_agg2 Tryz.underlying24 kR kR hval h0
 obtain⟨n0,e0,-,-⟩:=DataW.trod_int Tryz.underlying3 t0
 cases e0
 obtain⟨a,cap,d,v,rfl,h2,h3⟩:=ints_view t1
 exact⟨n0,a,d,cap,v,Y,h2,h3,hargs⟩
theorem openA(hval:Value.okWide Tryz.prog W .any base 26 v0)(h0:DataW.Trod enc Tryz.prog W 0 (fun _=>true) true 26 v0 d0 p)(hlt:∀x∈p,x.block<W.heap.size) :
  ∃x:MA,v0=x.val∧Still enc W 26 v0 d0 p:=by
 have hargs:Still enc W 26 v0 d0 p:=fun w' hb=>Below.trod laid row26 lt26 h0 hb hlt
 obtain⟨c0,c1,c2,c3,y0,y1,y2,y3,n,rfl,-,-,t0,t1,t2,t3⟩:=Go.Joins.open_agg4 Tryz.underlying26 kR kR hval h0
 obtain⟨n0,e0,-,-⟩:=DataW.trod_int Tryz.underlying3 t0
 obtain⟨n1,e1,-,-⟩:=DataW.trod_int Tryz.underlying3 t1
 obtain⟨n2,e2,-,-⟩:=DataW.trod_int Tryz.underlying3 t2
 obtain⟨n3,e3,-,-⟩:=DataW.trod_int Tryz.underlying3 t3
 cases e0
 cases e1
 cases e2
 cases e3
 exact⟨⟨n0,n1,n2,n3⟩,Y,hargs⟩
theorem openB(hval:Value.okWide Tryz.prog W .any base 42 v0)(h0:DataW.Trod enc Tryz.prog W 0 (fun _=>true) true 42 v0 d0 p)(hlt:∀x∈p,x.block<W.heap.size) :
  ∃(a:Option Addr) (cap:Nat) (l:List MA) (v:View),v0 = .slice a l.length cap∧l.length≤cap∧Opened W v∧ActsAt v a l∧Still enc W 42 v0 d0 p:=by
 have hargs:Still enc W 42 v0 d0 p:=fun w' hb=>Below.trod laid row42 lt42 h0 hb hlt
 obtain⟨a,len,cap,rfl⟩:=okWide_slice Tryz.underlying42 hval
 obtain⟨fuel,hf⟩:=h0
 obtain⟨a,cap,l,v,e,h1,h2,h3⟩:=words_view (c:=.slice a len cap) hf
 exact⟨a,cap,l,v,e,h1,h2,h3,hargs⟩
theorem openL(hval:Value.okWide Tryz.prog W .any base 22 v0)(h0:DataW.Trod enc Tryz.prog W 0 (fun _=>true) true 22 v0 d0 p)(hlt:∀x∈p,x.block<W.heap.size) :
  ∃(a:Option Addr) (cap:Nat) (ns:List Int) (v:View),v0 = .slice a ns.length cap∧Opened W v∧RowAt v a (ns.map (.int .i64))∧Still enc W 22 v0 d0 p:=by
 have hargs:Still enc W 22 v0 d0 p:=fun w' hb=>Below.trod laid row22 lt22 h0 hb hlt
 obtain⟨a,len,cap,rfl⟩:=okWide_slice Tryz.underlying22 hval
 obtain⟨fuel,hf⟩:=h0
 obtain⟨a,cap,ns,v,e,h1,h2⟩:=ints_view (c:=.slice a len cap) hf
 exact⟨a,cap,ns,v,e,h1,h2,hargs⟩
theorem trodAll_five{P:Program}{w:World}{base:Nat}{spare:Nat→Bool}{held:Bool}{t t1 t2 t3 t4:TypeId}{args:Array Value}{ds:List (DataW H)}{ps:List MemPlace}(h:DataW.TrodAll enc P w base spare held [t,t1,t2,t3,t4] args.toList ds ps) :
  ∃v v1 v2 v3 v4 d d1 d2 d3 d4 p p1 p2 p3 p4,args=#[v,v1,v2,v3,v4]∧ds=[d,d1,d2,d3,d4]∧ps=p++(p1++(p2++(p3++p4)))∧DataW.Trod enc P w base spare held t v d p∧DataW.Trod enc P w base spare held t1 v1 d1 p1∧DataW.Trod enc P w base spare held t2 v2 d2 p2∧DataW.Trod enc P w base spare held t3 v3 d3 p3∧DataW.Trod enc P w base spare held t4 v4 d4 p4:=by
 obtain⟨v,vs,d,ds',p,q,hargs,rfl,rfl,hd,hr⟩:=trodAll_cons h
 obtain⟨v1,vs1,d1,ds1,p1,q1,rfl,rfl,rfl,hd1,hr1⟩:=trodAll_cons hr
 obtain⟨v2,vs2,d2,ds2,p2,q2,rfl,rfl,rfl,hd2,hr2⟩:=trodAll_cons hr1
 obtain⟨v3,vs3,d3,ds3,p3,q3,rfl,rfl,rfl,hd3,hr3⟩:=trodAll_cons hr2
 obtain⟨v4,vs4,d4,ds4,p4,q4,rfl,rfl,rfl,hd4,hr4⟩:=trodAll_cons hr3
 obtain⟨rfl,rfl,rfl⟩:=trodAll_nil hr4
 exact⟨v,v1,v2,v3,v4,d,d1,d2,d3,d4,p,p1,p2,p3,p4,by cases args;simp_all,Y,by simp,hd,hd1,hd2,hd3,hd4⟩
end
end Go.Proofs.YtclejblcnfaeaaaGreat
end
section
namespace Go.Pal.To
open Go
abbrev LP:=List Int×List Int
def ltP(u v:LP):Prop:=ltL u.1 v.1=true∨(u.1=v.1∧ltL u.2 v.2=true)
def Best(R S:LP→Prop):Option LP→Prop
 | none=>∀u,S u→¬R u
 | some v=>S v∧R v∧∀u,S u→R u→¬ltP u v
theorem ltP_irrefl(u:LP):¬ltP u u:=by
 unfold ltP;rw [A7k,A7k];simp
theorem ltP_asymm{u v:LP}(h:ltP u v):¬ltP v u:=fun k=>by
 have h':A5c 0 u.1 u.2 0 v.1 v.2:=.inr ⟨Y,h⟩
 have k':A5c 0 v.1 v.2 0 u.1 u.2:=.inr ⟨Y,k⟩
 exact B0k (B1v h' k')
structure Sub(n:Nat)(l:List Int):Prop where
 asc:l.Pairwise (· < ·)
 all:∀x∈l,0≤x∧x<n
def bitsN(f:Nat→Bool):Nat→Nat
 | 0=>0
 | n+1=>bitsN f n ||| (if f n then 2 ^ n else 0)
theorem B3k(f:Nat→Bool):∀(n i:Nat),hasN (bitsN f n) i=(decide (i<n)&&f i)
 | 0,i=>by rw [hasN_bit];simp [bitsN]
 | n+1,i=>by
  have ih:=B3k f n i
  rw [hasN_bit]at ih⊢
  show(bitsN f n ||| (if f n then 2 ^ n else 0)).testBit i=_
  rw [Nat.testBit_or,ih]
  by_cases e:i=n
  ·subst e
   have h1:decide (i<i)=false:=decide_eq_false oM
   have h2:decide (i<i+1)=true:=decide_eq_true oM
   rw [h1,h2]
   cases h:f i<;>simp
  ·have h3:(if f n=true then 2 ^ n else 0).testBit i=false:=by
    cases h:f n
    ·simp
    ·simp only [if_true,Nat.testBit_two_pow]
     exact decide_eq_false (fun e'=>e e'.symm)
   rw [h3,Bool.or_false]
   by_cases h4:i<n
   ·rw [decide_eq_true h4,decide_eq_true (show i<n+1 by omega)]
   ·rw [decide_eq_false h4,decide_eq_false (show ¬i<n+1 by omega)]
theorem bitsN_lt(f:Nat→Bool)(n:Nat):bitsN f n<2 ^ n:=by
 refine Nat.lt_pow_two_of_testBit _ fun i hi=>?_
 rw [←hasN_bit,B3k,decide_eq_false oM]
 rfl
theorem pL_asc(s na i:Nat):(pL s na i).Pairwise (· < ·):=by
 unfold pL
 rw [List.pairwise_map]
 exact(List.pairwise_lt_range.filter _).imp fun h=>by omega
theorem qL_asc(s na i:Nat):(qL s na i).Pairwise (· < ·):=by
 unfold qL
 rw [List.pairwise_map]
 exact(List.pairwise_lt_range.filter _).imp fun h=>by omega
theorem set_of{na nb:Nat}{x y:List Int}(hx:Sub na x)(hy:Sub nb y):∃s,s<2 ^ (na+nb)∧pL s na (na+nb)=x∧qL s na (na+nb)=y:=by
 refine⟨bitsN (fun i=>if i<na then decide ((i:Int)∈x)else decide (((i:Int)-na)∈y)) (na+nb),bitsN_lt _ _,?_,?_⟩
 ·refine asc_one (pL_asc _ _ _) hx.asc fun z=>?_
  rw [mem_pL]
  constructor
  ·rintro⟨n,h1,h2,h3,rfl⟩
   rw [B3k,if_pos h3]at h2
   simpa [h1]using h2
  ·intro hz
   have h1:=hx.all z hz
   refine⟨z.toNat,oM,?_,oM,oM⟩
   rw [B3k,if_pos oM]
   have e:((z.toNat:Nat):Int)=z:=oM
   rw [e,decide_eq_true oM,decide_eq_true hz];rfl
 ·refine asc_one (qL_asc _ _ _) hy.asc fun z=>?_
  rw [mem_qL]
  constructor
  ·rintro⟨n,h1,h2,h3,rfl⟩
   rw [B3k,if_neg oM]at h2
   simpa [h1]using h2
  ·intro hz
   have h1:=hy.all z hz
   refine⟨na+z.toNat,oM,?_,oM,oM⟩
   rw [B3k,if_neg oM]
   have e:((na+z.toNat:Nat):Int)-na=z:=oM
   rw [e,decide_eq_true oM,decide_eq_true hz];rfl
theorem sub_pL(s na nb:Nat):Sub na (pL s na (na+nb)):=⟨pL_asc _ _ _,fun x hx=>by
 obtain⟨n,_,_,h3,rfl⟩:=mem_pL.1 hx
 omega⟩
theorem sub_qL(s na nb:Nat):Sub nb (qL s na (na+nb)):=⟨qL_asc _ _ _,fun x hx=>by
 obtain⟨n,h1,_,h3,rfl⟩:=mem_qL.1 hx
 omega⟩
def Two(na nb many:Nat)(u:LP):Prop:=Sub na u.1∧Sub nb u.2∧u.1.length+u.2.length=many
def B3l(d:List Int)(a b:List MA)(u:LP):Prop:=rightS d a b u.1 u.2
theorem B3m{P:Int}{d:List Int}{a b:List MA}(hL:LOk P d a b){r:Int×List Int×List Int}(h:A8t P d a b r){many:Nat}{v:LP}
  (h1:∀k,k<many→∀u,Two a.length b.length k u→¬B3l d a b u)(h2:Best (B3l d a b) (Two a.length b.length many) (some v)):r=(0,v.1,v.2):=by
 unfold A8t at h
 rw [if_neg (by simpa using layE_ok.2 hL)]at h
 obtain⟨s,hs,rfl,hr,hmin⟩:=h
 obtain⟨⟨g1,g2,g3⟩,h4,h5⟩:=h2
 have hla:=hL.la
 have hlb:=hL.lb
 obtain⟨t,ht,e1,e2⟩:=set_of g1 g2
 have lt:=len_pq ht oM
 have ls:=len_pq hs oM
 have rt:A7t d a b t:=by unfold A7t;rw [e1,e2];exact h4
 have k1:=hmin t ht rt
 have hTs:Two a.length b.length (cntN s) (pL s a.length (a.length+b.length),qL s a.length (a.length+b.length)):=⟨sub_pL _ _ _,sub_qL _ _ _,ls⟩
 have hm:many≤cntN s:=Nat.le_of_not_lt fun hlt=>h1 _ hlt _ hTs hr
 have ct:cntN t=many:=by rw [←lt,e1,e2];exact g3
 have k0:=keyLt_of k1
 have cs:cntN s=many:=oM
 have k2:¬A5c (cntN s) (pL s a.length (a.length+b.length)) (qL s a.length (a.length+b.length)) (cntN t) (pL t a.length (a.length+b.length)) (qL t a.length (a.length+b.length)):=fun k=>by
  have:=h5 (pL s a.length (a.length+b.length),qL s a.length (a.length+b.length)) (by rw [←cs];exact hTs) hr
  rw [e1,e2]at k
  unfold A5c at k
  rcases k with k|⟨_,k⟩
  ·omega
  ·exact this k
 have:cntN s=cntN t∧pL s a.length (a.length+b.length)=pL t a.length (a.length+b.length)∧qL s a.length (a.length+b.length)=qL t a.length (a.length+b.length):=Classical.byContradiction fun e=>by
  rcases keyLt_total e with k|k
  ·exact k2 k
  ·exact k1 k
 rw [this.2.1,this.2.2,e1,e2]
theorem two_all{d:List Int}{a b:List MA}(h:a.length+b.length≤8):∃u k,k≤a.length+b.length∧Two a.length b.length k u∧B3l d a b u:=by
 have h1:=all_right (d:=d) (a:=a) (b:=b) h
 refine⟨(pL (2 ^ (a.length+b.length)-1) a.length (a.length+b.length),qL (2 ^ (a.length+b.length)-1) a.length (a.length+b.length)),_,?_,⟨sub_pL _ _ _,sub_qL _ _ _,Y⟩,h1⟩
 have hlt:2 ^ (a.length+b.length)-1<2 ^ (a.length+b.length):=by have:=Nat.two_pow_pos (a.length+b.length);omega
 rw [len_pq hlt h]
 unfold cntN
 obtain⟨k,hk⟩:∃k,8=a.length+b.length+k:=⟨8-(a.length+b.length),oM⟩
 rw [hk,show List.range (a.length+b.length+k)=List.range (a.length+b.length)++(List.range k).map (fun x=>a.length+b.length+x)from List.range_add,List.countP_append]
 have:List.countP (hasN (2 ^ (a.length+b.length)-1)) (List.map (fun x=>a.length+b.length+x) (List.range k))=0:=by
  rw [List.countP_eq_zero]
  intro x hx
  obtain⟨y,_,rfl⟩:=List.mem_map.1 hx
  rw [hasN_bit,Nat.testBit_lt_two_pow (Nat.lt_of_lt_of_le hlt (Nat.pow_le_pow_right dM oM))]
  decide
 rw [this,Nat.add_zero]
 exact Nat.le_trans List.countP_le_length sM
end Go.Pal.To
end
section
namespace Go.Pal.To
def lowOf(l:List Nat):Nat:=match l.getLast? with
 | some x=>x+1
 | none=>0
def more(n:Nat)(l:List Nat):List (List Nat):=(List.range' (lowOf l) (n-lowOf l)).map fun x=>l++[x]
def B3n(n:Nat):Nat→List (List Nat)
 | 0=>[[]]
 | k+1=>(B3n n k).flatMap (more n)
theorem low_snoc(l:List Nat)(y:Nat):lowOf (l++[y])=y+1:=by
 unfold lowOf
 rw [List.getLast?_append]
 simp
theorem low_le{l:List Nat}{x:Nat}(h:(l++[x]).Pairwise (· < ·)):lowOf l≤x:=by
 rcases List.eq_nil_or_concat l with rfl|⟨m,y,rfl⟩
 ·exact Nat.zero_le _
 ·rw [List.concat_eq_append]at h⊢
  rw [List.pairwise_append]at h
  have:=h.2.2 y sM x sM
  rw [low_snoc]
  omega
theorem lt_low{l:List Nat}(h:l.Pairwise (· < ·)){a:Nat}(ha:a∈l):a<lowOf l:=by
 rcases List.eq_nil_or_concat l with rfl|⟨m,y,rfl⟩
 ·cases ha
 ·rw [List.concat_eq_append]at h ha⊢
  rw [low_snoc]
  rw [List.pairwise_append]at h
  rcases List.mem_append.1 ha with ha|ha
  ·have:=h.2.2 a ha y sM
   omega
  ·rw [List.mem_singleton.1 ha];omega
theorem mem_level{n:Nat}:∀{k:Nat} {l:List Nat},l∈B3n n k↔l.length=k∧l.Pairwise (· < ·)∧∀x∈l,x<n
 | 0,l=>by
  simp only [B3n,List.mem_singleton]
  constructor
  ·rintro rfl;simp
  ·rintro⟨h,_⟩;exact List.length_eq_zero_iff.1 h
 | k+1,l=>by
  simp only [B3n,List.mem_flatMap]
  constructor
  ·rintro⟨m,hm,hl⟩
   obtain⟨h1,h2,h3⟩:=mem_level.1 hm
   unfold more at hl
   obtain⟨x,hx,rfl⟩:=List.mem_map.1 hl
   rw [List.mem_range'_1]at hx
   refine⟨by simp [h1],?_,fun y hy=>?_⟩
   ·rw [List.pairwise_append]
    refine⟨h2,by simp,fun a ha b hb=>?_⟩
    rw [List.mem_singleton]at hb
    subst hb
    have:=lt_low h2 ha
    omega
   ·rcases List.mem_append.1 hy with hy|hy
    ·exact h3 y hy
    ·rw [List.mem_singleton.1 hy];omega
  ·rintro⟨h1,h2,h3⟩
   rcases List.eq_nil_or_concat l with rfl|⟨l,x,rfl⟩
   ·cases h1
   ·rw [List.concat_eq_append]at h1 h2 h3⊢
    refine⟨l,mem_level.2 ⟨by simpa using h1,(List.pairwise_append.1 h2).1,fun y hy=>h3 y (by simp [hy])⟩,?_⟩
    unfold more
    refine List.mem_map.2 ⟨x,?_,Y⟩
    rw [List.mem_range'_1]
    have:=low_le h2
    have:=h3 x sM
    omega
theorem B3o{n k:Nat}{l:List Int}:(Sub n l∧l.length=k)↔∃m∈B3n n k,l=m.map fun x:Nat=>(x:Int):=by
 constructor
 ·rintro⟨⟨h1,h2⟩,h3⟩
  have e:l=(l.map Int.toNat).map fun x:Nat=>(x:Int):=by
   rw [List.map_map]
   conv=>lhs;rw [←List.map_id l]
   refine List.map_congr_left fun x hx=>?_
   have:=h2 x hx
   simp only [id_eq,Function.comp_apply];omega
  refine⟨l.map Int.toNat,mem_level.2 ⟨by simp [h3],?_,fun x hx=>?_⟩,e⟩
  ·rw [List.pairwise_map]
   refine List.Pairwise.imp_of_mem (fun {a b} ha hb h=>?_) h1
   have:=h2 a ha
   have:=h2 b hb
   omega
  ·obtain⟨y,hy,rfl⟩:=List.mem_map.1 hx
   have:=h2 y hy
   omega
 ·rintro⟨m,hm,rfl⟩
  obtain⟨h1,h2,h3⟩:=mem_level.1 hm
  refine⟨⟨?_,fun x hx=>?_⟩,by simp [h1]⟩
  ·rw [List.pairwise_map]
   exact h2.imp fun h=>by omega
  ·obtain⟨y,hy,rfl⟩:=List.mem_map.1 hx
   have:=h3 y hy
   omega
end Go.Pal.To
end
section
namespace Go.Proofs.YtclejblcnfaeaaaGreat
open Go Go.Pal Go.Pal.To Go.Conc View
open Go.Proofs.Tryz
set_option maxHeartbeats 4000000
set_option maxRecDepth 20000
def RowsOf(v:View)(rows:List Value)(ls:List (List Nat)):Prop:=rows.length=ls.length∧∀(i:Nat) (h:i<ls.length),∃ai ci,rows[i]?=some (.slice ai ls[i].length ci)∧RowAt v ai (ls[i].map natV)
theorem RowsOf.le{u v:View}{rows:List Value}{ls:List (List Nat)}(h:RowsOf u rows ls)(hl:u.Le v):RowsOf v rows ls:=⟨h.1,fun i hi=>by
 obtain⟨ai,ci,h1,h2⟩:=h.2 i hi
 exact⟨ai,ci,h1,RowAt.le h2 hl⟩⟩
theorem RowsOf.snoc{v:View}{rows:List Value}{ls:List (List Nat)}{l:List Nat}{a:Option Addr}{c m:Nat}(h:RowsOf v rows ls)(hm:m=l.length)(hr:RowAt v a (l.map natV)):RowsOf v (rows++[.slice a m c]) (ls++[l]):=by
 subst hm
 refine⟨by simp [h.1],fun i hi=>?_⟩
 by_cases e:i<ls.length
 ·obtain⟨ai,ci,h1,h2⟩:=h.2 i e
  have e1:(ls++[l])[i]=ls[i]:=by rw [List.getElem_append_left e]
  rw [e1]
  exact⟨ai,ci,by rw [List.getElem?_append_left (by rw [h.1];exact e)];exact h1,h2⟩
 ·have hi':i=ls.length:=by simp at hi;omega
  subst hi'
  have e1:(ls++[l])[ls.length]=l:=by simp
  rw [e1]
  exact⟨a,c,by rw [List.getElem?_append_right (by rw [h.1];exact Nat.le_refl _),h.1];simp,hr⟩
def OwnLL(β:A0e)(r:Value)(ls:List (List Nat)):Prop:=∃a cap segO segR rows,r = .slice a ls.length cap∧β=segO++segR∧OwnS 22 1 segO a ls.length cap rows∧∀v,Bok segR v→RowsOf (v.union (A0c segR)) rows ls
structure TS where
 x:Nat
 a:Option Addr
 cap:Nat
 seg:A0e
 rows:List Value
 segR:A0e
section
variable{mn:Who}{v:View}
theorem inL_snoc{out:List Int}{x n:Int}:inL (out++[x]) n=(inL out n||(n==x)):=by
 simp [inL,List.any_append]
theorem left_x{aA aO:Option Addr}{cA cO:Nat}{a:List MA}{out:List Int}(ha:ActsAt v aA a)(hro:RowAt v aO (out.map intV))(hal:a.length<2^20)(hol:out.length<2^30) :
  CallsB prog mn 46 #[.slice aA a.length cA,.slice aO out.length cO] (RetB fun r β'=>∃a' cap,r = .slice a' (A3b a out).length cap∧OwnS 26 4 β' a' (A3b a out).length cap ((A3b a out).map MA.cells).flatten) [] v:=by
 refine A0d tab func46 Y nB (args:=[_,_]) ?_
 refine su ?_
 refine A1q (α:=WoS) (fun z=>⟨[],[(6,.int .i64 z.i),(0,.slice aA a.length cA),(5,.slice z.a (A3b (a.take z.i) out).length z.cap),(1,.slice aO out.length cO)],z.sg⟩)
  (fun z u=>u=v∧z.i≤a.length∧OwnS 26 4 z.sg z.a (A3b (a.take z.i) out).length z.cap ((A3b (a.take z.i) out).map MA.cells).flatten) (fun z=>a.length-z.i) ⟨0,[],none,0⟩ ⟨Y,rg,cntL⟩ (Le.refl _) ⟨Y,Nat.zero_le _,.nil⟩ ?_
 rintro⟨i,sg,a',cap⟩ u ⟨rfl,hi,hS⟩
 simp only at hi hS
 dsimp only
 refine su ?_
 refine A1i Y (fun h=>?_) (fun h=>?_)
 ·replace h:=fa h
  have hlt:i<a.length:=oM
  obtain⟨bb,off,p,c,e,f,rfl,hv,hc⟩:=ha.get hlt
  have hll:(A3b (a.take i) out).length≤i:=Nat.le_trans A5h (by rw [List.length_take];omega)
  have hsu:=leftN_succ (out:=out) hlt
  have hci:=hc i hlt
  generalize a[i]=x at hsu hci
  refine su ?_
  refine A1q (α:=Nat) (fun k=>⟨[],[(8,.int .i64 k),(7,.bool (inL (out.take k) (i:Int))),(6,.int .i64 i),(0,.slice (some ⟨bb,off,none⟩) a.length cA),(5,.slice a' (A3b (a.take i) out).length cap),(1,.slice aO out.length cO)],sg⟩)
   (fun k w=>w=u∧k≤out.length) (fun k=>out.length-k) 0 ⟨Y,rg,cntL⟩ (Le.refl _) ⟨Y,Nat.zero_le _⟩ ?_
  rintro k w ⟨rfl,hk⟩
  refine su ?_
  refine A1i Y (fun hlk=>?_) (fun hlk=>?_)
  ·simp only [decide_eq_true_eq]at hlk
   have hlk:k<out.length:=oM
   obtain⟨b2,o2,p2,k2,e2,f2,rfl,hv2,hc2⟩:=hro.get hlk
   replace hc2:=hc2 k hlk
   have hst:inL (out.take (k+1)) (i:Int)=(inL (out.take k) (i:Int)||((i:Int)==out[k])):=by rw [List.take_succ_eq_append_getElem hlk,inL_snoc]
   generalize out[k]=y at hc2 hst
   refine su ?_
   cases hg:inL (out.take k) (i:Int)with
   | true=>
    rw [hg,Bool.true_or]at hst
    refine su ?_
    refine A0b ⟨k+1,w,oM,⟨Y,?_,cntL⟩,Le.refl _,Y,hlk⟩
    rw [hst]
    exact rg
   | false=>
    rw [hg,Bool.false_or]at hst
    refine su ?_
    refine A6d tab k Y Y Y Y Y Y Y hlk ?_
    refine A2b tab Y Y Y hv2 (A0l tab Y Y Y (by rw [Nat.mul_one];exact hc2)) ?_
    refine su ?_
    refine A0b ⟨k+1,w,oM,⟨Y,?_,cntL⟩,Le.refl _,Y,hlk⟩
    rw [hst,show((i:Int)==y)=(y==(i:Int))from BEq.comm]
    exact rg
  ·obtain rfl:k=out.length:=by simp only [decide_eq_false_iff_not]at hlk;omega
   rw [List.take_length]
   cases h:inL out (i:Int)with
   | true=>
    rw [h,if_pos Y,List.append_nil]at hsu
    refine su ?_
    refine A0b ⟨⟨i+1,sg,a',cap⟩,w,by simp only;omega,⟨Y,?_,cntL⟩,Le.refl _,Y,hlt,?_⟩
    ·simp only
     rw [hsu]
     exact rg
    ·simp only
     rw [hsu];exact hS
   | false=>
    rw [h,if_neg dM]at hsu
    refine su ?_
    refine A6d tab i Y Y Y Y Y Y Y hlt ?_
    refine A2b tab Y Y Y hv (A1g tab Y Y Y hci) ?_
    refine Q_op fun ho'=>A3w tab ho' Y Y Y Y Y Y Y Y Y (fun b3 c3 hL=>?_)
    clear ho'
    refine Q_op fun ho'=>A3x tab (xs:=x.cells) sg [(b3,c3,26)] [] ho' Y Y Y Y Y Y Y Y Y Y (show ∀p,Pal.cnt p ((b3,c3,26)::sg)=Pal.cnt p (sg++([(b3,c3,26)]++[]))from cntA) hS
     (fun hb=>RowAt.own hb cntL hL) Y Y (by show(2*((A3b (a.take i) out).length+1)+768)*32≤2^48;omega) oM (fun sg' a'' cap' hS'=>?_)
    clear ho'
    refine su ?_
    refine A0b ⟨⟨i+1,sg',a'',cap'⟩,w,by simp only;omega,⟨Y,?_,cntL⟩,Le.refl _,Y,hlt,?_⟩
    ·simp only
     rw [hsu,List.length_append]
     exact rg
    ·simp only
     rw [hsu,List.length_append,List.map_append,List.flatten_append]
     simpa using hS'
 ·replace h:=fa h
  have hin:i=a.length:=oM
  subst hin
  rw [List.take_length]at hS⊢
  refine su ?_
  refine A0f tab sg (by exact .tmp rfl .nil) (Back.here cntL) ?_
  exact⟨a',cap,Y,hS⟩
end
end Go.Proofs.YtclejblcnfaeaaaGreat
end
section
namespace Go.Pal.To
def lsG(n:Nat):Nat→Nat→List (List Nat)
 | 0,_=>[[]]
 | k+1,f=>[]::(List.range' f (n-f)).flatMap fun i=>(lsG n k (i+1)).map (i::·)
def lsts(n f:Nat):List (List Nat):=lsG n 5 f
def prt(n f i:Nat):List (List Nat):=[]::(List.range' f (i-f)).flatMap fun x=>(lsts n (x+1)).map (x::·)
theorem ls_tab:(List.range 5).all (fun n=>(List.range (n+1)).all fun f=>(lsts n f==prt n f n)&&decide ((lsts n f).length≤16)&&decide (0<(lsts n f).length)&&(lsts n f).all fun l=>decide (l.length≤4))=true:=by decide +kernel
structure LsOk(n f:Nat):Prop where
 prt:lsts n f=prt n f n
 len:(lsts n f).length≤16
 pos:0<(lsts n f).length
 size:∀l∈lsts n f,l.length≤4
theorem ls_ok{n f:Nat}(hn:n≤4)(hf:f≤n):LsOk n f:=by
 have h:=List.all_eq_true.1 (List.all_eq_true.1 ls_tab n (List.mem_range.2 oM)) f (List.mem_range.2 oM)
 simp only [Bool.and_eq_true,decide_eq_true_eq,beq_iff_eq]at h
 obtain⟨⟨⟨h1,h2⟩,h3⟩,h4⟩:=h
 exact⟨h1,h2,h3,fun l hl=>by simpa using List.all_eq_true.1 h4 l hl⟩
theorem prt_succ{n f i:Nat}(h:f≤i):prt n f (i+1)=prt n f i++(lsts n (i+1)).map (i::·):=by
 unfold prt
 rw [show i+1-f=i-f+1 by omega,List.range'_1_concat,List.flatMap_append,List.cons_append]
 simp only [List.flatMap_cons,List.flatMap_nil,List.append_nil]
 rw [show f+(i-f)=i by omega]
theorem prt_len{n f i:Nat}(hf:f≤i)(hi:i≤n)(hn:n≤4):(prt n f i).length≤16:=by
 have h:=(ls_ok hn (Nat.le_trans hf hi)).len
 rw [(ls_ok hn (Nat.le_trans hf hi)).prt]at h
 refine Nat.le_trans ?_ h
 have:∀k,(prt n f i).length≤(prt n f (i+k)).length:=by
  intro k
  induction k with
  | zero=>exact Nat.le_refl _
  | succ k ih=>
   rw [←Nat.add_assoc,prt_succ oM,List.length_append]
   omega
 have:=this (n-i)
 rwa [show i+(n-i)=n by omega]at this
def prtI(n f i y:Nat):List (List Nat):=prt n f i++((lsts n (i+1)).take y).map (i::·)
theorem prtI_succ{n f i y:Nat}(h:y<(lsts n (i+1)).length):prtI n f i (y+1)=prtI n f i y++[i::(lsts n (i+1))[y]]:=by
 unfold prtI
 rw [List.take_succ_eq_append_getElem h,List.map_append,←List.append_assoc];rfl
theorem prtI_end{n f i:Nat}(h:f≤i):prtI n f i (lsts n (i+1)).length=prt n f (i+1):=by
 unfold prtI
 rw [List.take_length,prt_succ h]
theorem prtI_le{n f i y:Nat}(h:f≤i):(prtI n f i y).length≤(prt n f (i+1)).length:=by
 rw [prt_succ h]
 unfold prtI
 rw [List.length_append,List.length_append,List.length_map,List.length_map,List.length_take]
 omega
end Go.Pal.To
namespace Go.Proofs.YtclejblcnfaeaaaGreat
open Go Go.Pal Go.Pal.To Go.Conc View
open Go.Proofs.Tryz
set_option maxHeartbeats 4000000
set_option maxRecDepth 20000
section
variable{mn:Who}
theorem listsR_x{n:Nat}(hn:n≤4):∀(k:Nat) {v:View} {f:Nat},n-f≤k→f≤n→CallsB prog mn 101 #[.int .i64 f,.int .i64 n] (RetB fun r β'=>OwnLL β' r (lsts n f)) [] v:=by
 intro k
 induction k with
 | zero=>
  intro v f hk hf
  refine A0d tab func101 Y nB (args:=[_,_]) ?_
  obtain rfl:f=n:=oM
  refine su ?_
  refine Q_op fun ho=>A3w tab ho Y Y Y Y Y Y Y Y Y (fun b3 c3 hL=>?_)
  clear ho
  refine su ?_
  have e:lsts f f=[[]]:=by rw [(ls_ok hn (Nat.le_refl f)).prt];simp [prt]
  rw [e]
  refine A1q (α:=Nat) (fun i=>⟨[],[(6,.int .i64 f),(5,.slice (some ⟨b3,0,none⟩) 1 1),(1,.int .i64 f)],[(b3,c3,22)]⟩) (fun i u=>u=v) (fun i=>i) 0 ⟨Y,rg,cntL⟩ (Le.refl _) Y ?_
  rintro i u rfl
  refine su ?_
  rw [show decide ((f:Int)<(f:Int))=false from decide_eq_false oM]
  refine su ?_
  refine A0f tab [(b3,c3,22)] (by exact .tmp rfl .nil) (Back.here cntL) ?_
  refine⟨_,_,[(b3,c3,22)],[],[.slice none 0 0],Y,Y,hL,fun v _=>⟨Y,fun i hi=>?_⟩⟩
  have:i=0:=by simp at hi;omega
  subst this
  exact⟨none,0,Y,.inl Y⟩
 | succ k ih=>
 intro v f hk hf
 refine A0d tab func101 Y nB (args:=[_,_]) ?_
 refine su ?_
 refine Q_op fun ho=>A3w tab ho Y Y Y Y Y Y Y Y Y (fun b3 c3 hL=>?_)
 clear ho
 refine su ?_
 have h0:prt n f f=[[]]:=by simp [prt]
 refine A1q (α:=TS) (fun z=>⟨[],[(6,.int .i64 z.x),(5,.slice z.a (prt n f z.x).length z.cap),(1,.int .i64 n)],z.seg⟩)
  (fun z u=>u=v.union (A0c z.segR)∧Bok z.segR v∧(f≤z.x∧z.x≤n)∧OwnS 22 1 z.seg z.a (prt n f z.x).length z.cap z.rows∧∀v,Bok z.segR v→RowsOf (v.union (A0c z.segR)) z.rows (prt n f z.x)) (fun z=>n-z.x)
  ⟨f,some ⟨b3,0,none⟩,1,[(b3,c3,22)],[.slice none 0 0],[]⟩ ⟨Y,(by dsimp only;rw [h0];exact rg),cntL⟩ (by rw [A1r];exact Le.refl _) ⟨Y,A4c v,⟨Nat.le_refl _,hf⟩,(by dsimp only;rw [h0];exact hL),fun v _=>(by dsimp only;rw [h0];exact⟨Y,fun i hi=>by
   have:i=0:=by simp at hi;omega
   subst this
   exact⟨none,0,Y,.inl Y⟩⟩)⟩ ?_
 rintro⟨i,a,cap,seg,rows,segR⟩ u ⟨rfl,hbR,⟨hfi,hi⟩,hO,hR⟩
 dsimp only at hbR hfi hi hO hR⊢
 have hlen:=prt_len hfi hi hn
 refine su ?_
 refine A1i Y (fun h=>?_) (fun h=>?_)
 ·have hin:i<n:=by have:=of_decide_eq_true h;omega
  clear h
  have hls:=ls_ok hn (show i+1≤n by omega)
  have hll:=hls.len
  have hlen2:=prt_len (n:=n) (f:=f) (i:=i+1) oM oM hn
  refine su ?_
  refine Q_op fun ho=>A0o [] seg ho bod101 Y Y Y Y Y A7s (ih (f:=i+1) oM oM) (fun x β' hRr=>?_)
  clear ho
  obtain⟨aL,cL,sO,sR,rowsL,rfl,rfl,hOL,hRL⟩:=hRr
  obtain⟨b,c,rfl,rfl,hcap,hcs,hcc⟩:=own_box hOL hls.pos
  refine A8x (β1:=sR) (β2:=seg++[(b,c,22)]) cntA (fun hb2=>?_)
  have hbn:Bok (sR++segR) v:=bok_append.2 ⟨hbR,hb2⟩
  have hun:=A0v hbn
  rw [←hun]
  refine su ?_
  refine A1q (α:=TS) (fun z=>⟨[],[(8,.int .i64 z.x),(7,.slice (some ⟨b,0,none⟩) (lsts n (i+1)).length cL),(6,.int .i64 i),(5,.slice z.a (prtI n f i z.x).length z.cap),(1,.int .i64 n)],z.seg++[(b,c,22)]⟩)
   (fun z u=>u=v.union (A0c z.segR)∧Bok z.segR v∧z.x≤(lsts n (i+1)).length∧OwnS 22 1 z.seg z.a (prtI n f i z.x).length z.cap z.rows∧(∀v,Bok z.segR v→RowsOf (v.union (A0c z.segR)) z.rows (prtI n f i z.x))∧∀v,Bok z.segR v→RowsOf (v.union (A0c z.segR)) rowsL (lsts n (i+1))) (fun z=>(lsts n (i+1)).length-z.x)
   ⟨0,a,cap,seg,rows,sR++segR⟩ ⟨Y,(by dsimp only;rw [show prtI n f i 0=prt n f i from by simp [prtI]];exact rg),cntL⟩ (Le.refl _) ⟨Y,hbn,Nat.zero_le _,(by dsimp only;rw [show prtI n f i 0=prt n f i from by simp [prtI]];exact hO),(fun v' hb'=>by
    dsimp only
    rw [show prtI n f i 0=prt n f i from by simp [prtI]]
    obtain⟨k1,k2⟩:=bok_append.1 hb'
    exact(hR v' k1).le (by rw [A0v hb'];exact A0g _ _)),fun v' hb'=>by
    obtain⟨k1,k2⟩:=bok_append.1 hb'
    rw [A0v hb']
    exact hRL _ k2⟩ ?_
  clear hR hbR hO hRL hbn hb2 hun segR rows seg cap a sR
  rintro⟨y,a,cap,seg,rows,segR⟩ u ⟨rfl,hbR,hy,hO,hR,hRL⟩
  dsimp only at hbR hy hO hR hRL⊢
  have hpl:=prtI_le (n:=n) (f:=f) (i:=i) (y:=y) hfi
  refine su ?_
  refine A1i Y (fun h=>?_) (fun h=>?_)
  ·have hlt:y<(lsts n (i+1)).length:=by have:=of_decide_eq_true h;omega
   clear h
   have hsucc:=prtI_succ (n:=n) (f:=f) (i:=i) (y:=y) hlt
   obtain⟨ai,ci,hri,hrowi⟩:=(hRL v hbR).2 y hlt
   have hl4:=hls.size _ (List.getElem_mem hlt)
   generalize (lsts n (i+1))[y]=l at hsucc hri hrowi hl4
   refine su ?_
   refine Q_op fun ho=>A3w tab ho Y Y Y Y Y Y Y Y Y (fun b4 c4 hL4=>?_)
   clear ho
   refine su ?_
   refine A6d tab y Y Y Y Y Y Y Y hlt ?_
   refine Q_loadB tab Y Y Y ib (A0l tab Y Y Y (by rw [Nat.mul_one,Nat.zero_add];exact hcc _ _ hri)) ?_
   refine Q_op fun ho=>A3x tab (xs:=l.map natV) [(b4,c4,3)] [] (seg++[(b,c,22)]) ho Y Y Y Y Y Y Y Y Y Y cntA hL4
    (fun hb=>RowAt.le hrowi (A0g _ _)) sM (by simp [List.all_eq_true,natV,A2k]) oM oM (fun seg2 a2 cap2 hS2=>?_)
   clear ho
   refine Q_op fun ho=>A3w tab ho Y Y Y Y Y Y Y Y Y (fun b5 c5 hL5=>?_)
   clear ho
   refine Q_op fun ho=>A3x tab (xs:=[.slice a2 (1+l.length) cap2]) seg [(b5,c5,22)] (seg2++[(b,c,22)]) ho Y Y Y Y Y Y Y Y Y Y cntA hO
    (fun hb=>RowAt.own hb cntL hL5) Y Y oM oM (fun seg3 a3 cap3 hS3=>?_)
   clear ho
   refine A8x (β1:=seg2) (β2:=seg3++[(b,c,22)]) cntA (fun hb2=>?_)
   have hbn:Bok (seg2++segR) v:=bok_append.2 ⟨hbR,hb2⟩
   have hun:=A0v hbn
   rw [←hun]
   have hpl2:(prtI n f i (y+1)).length=(prtI n f i y).length+1:=by rw [hsucc,List.length_append];rfl
   refine su ?_
   refine A0b ⟨⟨y+1,a3,cap3,seg3,rows++[.slice a2 (1+l.length) cap2],seg2++segR⟩,_,(by dsimp only;omega),⟨Y,?_,cntL⟩,Le.refl _,Y,hbn,hlt,?_,?_,?_⟩
   ·dsimp only
    rw [hpl2]
    exact rg
   ·dsimp only
    rw [hpl2]
    exact hS3
   ·intro v' hb'
    obtain⟨k1,k2⟩:=bok_append.1 hb'
    dsimp only
    rw [hsucc]
    refine RowsOf.snoc ((hR v' k1).le ?_) (by simp;omega) ?_
    ·rw [A0v hb'];exact A0g _ _
    ·rw [A0v hb']
     exact RowAt.own k2 (fun _=>Nat.le_refl _) hS2
   ·intro v' hb'
    obtain⟨k1,k2⟩:=bok_append.1 hb'
    exact(hRL v' k1).le (by rw [A0v hb'];exact A0g _ _)
  ·have hyn:y=(lsts n (i+1)).length:=by have:=of_decide_eq_false h;omega
   clear h
   subst hyn
   rw [prtI_end hfi]at hO hR⊢
   refine su ?_
   exact A0b ⟨⟨i+1,a,cap,seg,rows,segR⟩,_,by dsimp only;omega,⟨Y,rg,cntL⟩,Le.refl _,Y,hbR,⟨by dsimp only;omega,hin⟩,hO,hR⟩
 ·have hin:i=n:=by have:=of_decide_eq_false h;omega
  subst hin
  clear h
  rw [←(ls_ok hn hf).prt]at hO hR⊢
  refine su ?_
  refine A0f tab (β':=seg++segR) (by exact .tmp rfl .nil) (Back.retired hbR (Back.here cntL)) ?_
  exact⟨a,cap,seg,segR,rows,Y,Y,hO,hR⟩
end
end Go.Proofs.YtclejblcnfaeaaaGreat
end
section
namespace Go.Pal.To
def zs(l:List Nat):List Int:=l.map fun n:Nat=>(n:Int)
theorem ls_tab2:(List.range 5).all (fun n=>((List.range (n+1)).all fun k=>(B3n n k).all fun l=>(lsts n 0).contains l)&&(lsts n 0).all (fun l=>(B3n n l.length).contains l)&&decide (((lsts n 0).map zs).Pairwise fun a b=>ltL a b=true)&&((lsts n 0)[n]? == some (List.range n)))=true:=by decide +kernel
theorem ls_facts{n:Nat}(hn:n≤4):(∀k,k≤n→∀l∈B3n n k,l∈lsts n 0)∧(∀l∈lsts n 0,l∈B3n n l.length)∧((lsts n 0).map zs).Pairwise (fun a b=>ltL a b=true)∧(lsts n 0)[n]?=some (List.range n):=by
 have h:=List.all_eq_true.1 ls_tab2 n (List.mem_range.2 oM)
 simp only [Bool.and_eq_true,decide_eq_true_eq,beq_iff_eq]at h
 obtain⟨⟨⟨h1,h2⟩,h3⟩,h4⟩:=h
 refine⟨fun k hk l hl=>?_,fun l hl=>?_,h3,h4⟩
 ·have:=List.all_eq_true.1 (List.all_eq_true.1 h1 k (List.mem_range.2 oM)) l hl
  simpa using this
 ·have:=List.all_eq_true.1 h2 l hl
  simpa using this
theorem sub_lsts{n:Nat}(hn:n≤4){l:List Int}:Sub n l↔∃m∈lsts n 0,l=zs m:=by
 obtain⟨h1,h2,_,_⟩:=ls_facts hn
 constructor
 ·intro h
  obtain⟨m,hm,e⟩:=(B3o (n:=n) (k:=l.length)).1 ⟨h,rfl⟩
  have hk:=(mem_level.1 hm).1
  refine⟨m,?_,e⟩
  by_cases hkn:l.length≤n
  ·exact h1 _ hkn m hm
  ·exfalso
   have hle:∀{k:Nat} {l:List Nat},l∈B3n k l.length→l.length≤k:=by
    intro k l hl
    obtain⟨_,g2,g3⟩:=mem_level.1 hl
    have hnd:l.Nodup:=g2.imp (fun h=>by omega)
    have hsub:l ⊆ List.range k:=fun x hx=>List.mem_range.2 (g3 x hx)
    have:=hnd.length_le_of_subset hsub
    simpa using this
   have:=hle (k:=n) (l:=m) (by rw [hk];exact hm)
   omega
 ·rintro⟨m,hm,rfl⟩
  exact((B3o (n:=n) (k:=m.length)).2 ⟨m,h2 m hm,Y⟩).1
end Go.Pal.To
end
section
namespace Go.Proofs.YtclejblcnfaeaaaGreat
open Go Go.Pal Go.Pal.To Go.Conc View
open Go.Proofs.Tryz
set_option maxHeartbeats 4000000
set_option maxRecDepth 20000
abbrev toZ(l:List Nat):List Int:=l.map fun n:Nat=>(n:Int)
theorem rowsOf_own{u:View}{ls:List (List Nat)}{segO segR:A0e}{a:Option Addr}{cap:Nat}{rows:List Value}(hb:Bok (segO++segR) u)(hO:OwnS 22 1 segO a ls.length cap rows)(hR:∀v,Bok segR v→RowsOf (v.union (A0c segR)) rows ls) :
  RowAt (u.union (A0c (segO++segR))) a rows∧RowsOf (u.union (A0c (segO++segR))) rows ls:=by
 refine⟨RowAt.own hb (by exact cntL) hO,(hR u (bok_append.1 hb).1).le ?_⟩
 rw [A0v hb]
 exact A0g _ _
theorem rows_at{v:View}{al:Option Addr}{rows:List Value}{L:List (List Nat)}(hrow:RowAt v al rows)(hrs:RowsOf v rows L){x:Nat}(hx:x<L.length):∃b off p c e f ai ci,al=some ⟨b,off,none⟩∧v b=some (p,.cells c e f)∧c[off+x]?=some (.slice ai L[x].length ci)∧RowAt v ai ((toZ L[x]).map intV):=by
 obtain⟨ai,ci,h1,h2⟩:=hrs.2 x hx
 rw [nats_to]at h2
 rcases hrow with h|⟨b,off,p,c,e,f,k1,k2,k3,k4⟩
 ·rw [h]at h1;cases h1
 ·exact⟨b,off,p,c,e,f,ai,ci,k1,k2,k4 x _ h1,h2⟩
theorem sub_len{n:Nat}{l:List Int}(h:Sub n l):l.length≤n:=by
 have:=len_subG (asc_nodup h.asc) (m:=(List.range n).map fun x:Nat=>(x:Int)) fun x hx=>by
  have:=h.all x hx
  exact List.mem_map.2 ⟨x.toNat,List.mem_range.2 oM,oM⟩
 simpa using this
theorem LOk_left{P:Int}{d:List Int}{a b:List MA}(h:LOk P d a b)(s t:List Int):LOk P d (A3b a s) (A3b b t):=
 ⟨h.m,Nat.le_trans A5h h.la,Nat.le_trans A5h h.lb,fun x hx=>h.a x (A5g hx),fun x hx=>h.b x (A5g hx)⟩
theorem leftZ_x{mn:Who}{v:View}{aA aO:Option Addr}{cA cO:Nat}{a:List MA}{xi:List Nat}(ha:ActsAt v aA a)(hro:RowAt v aO ((toZ xi).map intV))(hal:a.length<2^20)(hol:xi.length<2^30) :
  CallsB prog mn 46 #[.slice aA a.length cA,.slice aO xi.length cO] (RetB fun r β'=>∃a' cap,r = .slice a' (A3b a (toZ xi)).length cap∧OwnS 26 4 β' a' (A3b a (toZ xi)).length cap ((A3b a (toZ xi)).map MA.cells).flatten) [] v:=by
 have:=left_x (mn:=mn) (cA:=cA) (cO:=cO) ha hro hal (by rw [List.length_map];exact hol)
 rwa [List.length_map]at this
end Go.Proofs.YtclejblcnfaeaaaGreat
end
section
namespace Go.Pal.To
structure LsAll(n:Nat)(L:List (List Nat)):Prop where
 sub:∀l,Sub n l↔∃m∈L,l=zs m
 asc:(L.map zs).Pairwise (fun a b=>ltL a b=true)
 last:L[n]?=some (List.range n)
 size:∀l∈L,l.length≤4
 len:L.length≤16
theorem lsAll{n:Nat}(hn:n≤4):LsAll n (lsts n 0):=by
 obtain⟨_,_,h3,h4⟩:=ls_facts hn
 have h:=ls_ok hn (Nat.zero_le n)
 exact⟨fun l=>sub_lsts hn,h3,h4,h.size,h.len⟩
theorem level_full:(List.range 5).all (fun n=>B3n n n == [List.range n])=true:=by decide +kernel
theorem sub_full{n:Nat}(hn:n≤4){l:List Int}(h:Sub n l)(hl:l.length=n):l=zs (List.range n):=by
 obtain⟨m,hm,e⟩:=(B3o (n:=n) (k:=n)).1 ⟨h,hl⟩
 have:=List.all_eq_true.1 level_full n (List.mem_range.2 oM)
 rw [beq_iff_eq.1 this]at hm
 rw [e,List.mem_singleton.1 hm];rfl
def NoR(d:List Int)(a b:List MA)(m:Nat)(x y:List Nat):Prop:=x.length+y.length=m→¬B3l d a b (zs x,zs y)
theorem asc_at{L:List (List Nat)}(h:(L.map zs).Pairwise (fun a b=>ltL a b=true)){i j:Nat}(hij:i<j){x y:List Nat}(hx:L[i]?=some x)(hy:L[j]?=some y):ltL (zs x) (zs y)=true:=by
 obtain⟨h1,rfl⟩:=List.getElem?_eq_some_iff.1 hx
 obtain⟨h2,rfl⟩:=List.getElem?_eq_some_iff.1 hy
 have:=List.pairwise_iff_getElem.1 h i j (by simpa using h1) (by simpa using h2) hij
 simpa using this
theorem pairs_best{d:List Int}{a b:List MA}{LA LB:List (List Nat)}(hA:LsAll a.length LA)(hB:LsAll b.length LB){m i k:Nat}{x y:List Nat}(hx:LA[i]?=some x)(hy:LB[k]?=some y)
  (h1:∀j,j<i→∀s,LA[j]?=some s→∀t∈LB,NoR d a b m s t)(h2:∀j,j<k→∀t,LB[j]?=some t→NoR d a b m x t)(hs:x.length+y.length=m)(hR:B3l d a b (zs x,zs y)) :
  Best (B3l d a b) (Two a.length b.length m) (some (zs x,zs y)):=by
 refine⟨⟨(hA.sub _).2 ⟨_,List.mem_of_getElem? hx,Y⟩,(hB.sub _).2 ⟨_,List.mem_of_getElem? hy,Y⟩,by simpa [zs]using hs⟩,hR,?_⟩
 rintro⟨s,t⟩ ⟨k1,k2,k3⟩ hRu hlt
 obtain⟨x',hx',rfl⟩:=(hA.sub _).1 k1
 obtain⟨y',hy',rfl⟩:=(hB.sub _).1 k2
 have hs':x'.length+y'.length=m:=by simpa [zs]using k3
 obtain⟨i',hi'⟩:=List.getElem?_of_mem hx'
 obtain⟨k',hk'⟩:=List.getElem?_of_mem hy'
 rcases Nat.lt_trichotomy i' i with h|rfl|h
 ·exact h1 i' h x' hi' y' hy' hs' hRu
 ·rw [hx]at hi'
  obtain rfl:=Option.some.inj hi'
  rcases Nat.lt_trichotomy k' k with h|rfl|h
  ·exact h2 k' h y' hk' hs' hRu
  ·rw [hy]at hk'
   obtain rfl:=Option.some.inj hk'
   exact ltP_irrefl _ hlt
  ·exact ltP_asymm (u:=(zs x,zs y)) (v:=(zs x,zs y')) (.inr ⟨Y,asc_at hB.asc h hy hk'⟩) hlt
 ·exact ltP_asymm (u:=(zs x,zs y)) (v:=(zs x',zs y')) (.inl (asc_at hA.asc h hx hi')) hlt
theorem pairs_none{d:List Int}{a b:List MA}{LA LB:List (List Nat)}(hA:LsAll a.length LA)(hB:LsAll b.length LB){m:Nat}
  (h1:∀j,j<LA.length→∀s,LA[j]?=some s→∀t∈LB,NoR d a b m s t):∀u,Two a.length b.length m u→¬B3l d a b u:=by
 rintro⟨s,t⟩ ⟨k1,k2,k3⟩ hRu
 obtain⟨x',hx',rfl⟩:=(hA.sub _).1 k1
 obtain⟨y',hy',rfl⟩:=(hB.sub _).1 k2
 obtain⟨i',hi'⟩:=List.getElem?_of_mem hx'
 exact h1 i' (List.getElem?_eq_some_iff.1 hi').1 x' hi' y' hy' (by simpa [zs]using k3) hRu
theorem full_best{d:List Int}{a b:List MA}(ha:a.length≤4)(hb:b.length≤4)(hno:∀j,j<a.length+b.length→∀u,Two a.length b.length j u→¬B3l d a b u) :
  Best (B3l d a b) (Two a.length b.length (a.length+b.length)) (some (zs (List.range a.length),zs (List.range b.length))):=by
 have key:∀u,Two a.length b.length (a.length+b.length) u→u=(zs (List.range a.length),zs (List.range b.length)):=by
  rintro⟨s,t⟩ ⟨k1,k2,k3⟩
  have l1:=Go.Proofs.YtclejblcnfaeaaaGreat.sub_len k1
  have l2:=Go.Proofs.YtclejblcnfaeaaaGreat.sub_len k2
  simp only at k1 k2 k3 l1 l2
  rw [sub_full ha k1 oM,sub_full hb k2 oM]
 obtain⟨u,k,h1,h2,h3⟩:=two_all (d:=d) (a:=a) (b:=b) oM
 have hk:k=a.length+b.length:=Nat.le_antisymm h1 (Nat.le_of_not_lt fun hlt=>hno k hlt u h2 h3)
 subst hk
 have e:=key u h2
 subst e
 exact⟨h2,h3,fun v hv _=>by rw [key v hv];exact ltP_irrefl _⟩
end Go.Pal.To
namespace Go.Proofs.YtclejblcnfaeaaaGreat
open Go Go.Pal Go.Pal.To Go.Conc View
open Go.Proofs.Tryz
set_option maxHeartbeats 4000000
set_option maxRecDepth 20000
def StrR(P:Int)(d:List Int)(a b:List MA)(x:Value)(u:View):Prop:=
 ∃a5 c5 a6 c6,∃r:Int×List Int×List Int,x = .tuple (List.toArray [.slice a5 r.2.1.length c5,.slice a6 r.2.2.length c6,intV r.1])∧RowAt u a5 (r.2.1.map intV)∧RowAt u a6 (r.2.2.map intV)∧∀r',A8t P d a b r'→r'=r
def spStk(a b:List MA)(x y:List Int):Nat→Value→A0e→Prop
 | 19,z,β=>OwnI 26 4 z β (A3b a x).length ((A3b a x).map MA.cells).flatten
 | _,z,β=>OwnI 26 4 z β (A3b b y).length ((A3b b y).map MA.cells).flatten
section
variable{v:View}{mn:Who}{P:Int}{aD aA aB:Option Addr}{cD cA cB:Nat}{d:List Int}{a b:List MA}
theorem struckR_x(hd:RowAt v aD (d.map intV))(hdl:d.length<2^30)(ha:ActsAt v aA a)(hb:ActsAt v aB b)(hal:a.length<2^30)(hbl:b.length<2^30)(hcA:a.length≤cA)(hcB:b.length≤cB) :
  A6l prog mn 41 [moV P aD d.length cD,.slice aA a.length cA,.slice aB b.length cB] (StrR P d a b) v:=by
 refine A3k tab func41 Y nB (args:=[_,_,_]) ?_
 refine sw fun bx=>?_
 obtain⟨b3,rfl⟩:∃x:Nat,x=bx:=⟨bx,rfl⟩
 refine Q_op fun ho=>A0u ho bod100 Y Y Y Y Y (laidR_x hd hdl ha hb hal hbl) ?_
 clear ho
 by_cases h1:layE P d a b=0
 ·have hL:=layE_ok.1 h1
  rw [h1]
  have hla:=hL.la
  have hlb:=hL.lb
  have hdl3:=hL.m.len
  refine su ?_
  refine Q_op fun ho=>A0o [] _ ho bod101 Y Y Y Y Y A7s (listsR_x (n:=a.length) hla a.length (f:=0) oM (Nat.zero_le _)) (fun x β' hR=>?_)
  clear ho
  obtain⟨aP,cP,sO,sR,rowsP,rfl,rfl,hO,hR⟩:=hR
  refine A8x (β1:=sO++sR) (β2:=[(b3,(moV P aD d.length cD).cells,24)]) cntA (fun hbk=>?_)
  obtain⟨rP,hP⟩:=rowsOf_own hbk hO hR
  have hv1:=A0g v (A0c (sO++sR))
  clear hbk hO hR
  generalize v.union (A0c (sO++sR))=v1 at *
  refine su ?_
  refine Q_op fun ho=>A0o [] _ ho bod101 Y Y Y Y Y A7s (listsR_x (n:=b.length) hlb b.length (f:=0) oM (Nat.zero_le _)) (fun x β' hR=>?_)
  clear ho
  obtain⟨aQ,cQ,sO2,sR2,rowsQ,rfl,rfl,hO,hR⟩:=hR
  refine A8x (β1:=sO2++sR2) (β2:=[(b3,(moV P aD d.length cD).cells,24)]) cntA (fun hbk=>?_)
  obtain⟨rQ,hQ⟩:=rowsOf_own hbk hO hR
  have hv2:=A0g v1 (A0c (sO2++sR2))
  replace rP:=rP.le hv2
  replace hP:=hP.le hv2
  replace hv1:=hv1.trans hv2
  clear hbk hO hR hv2
  generalize v1.union (A0c (sO2++sR2))=v2 at *
  clear v1
  have hA:=lsAll hla
  have hB:=lsAll hlb
  have hd2:=hd.le hv1
  have ha2:=ha.le hv1
  have hb2:=hb.le hv1
  generalize lsts a.length 0=LA at *
  generalize lsts b.length 0=LB at *
  have hAl:=hA.len
  have hBl:=hB.len
  refine su ?_
  refine A1q (α:=Nat) (fun m=>⟨[],[(12,.int .i64 m),(10,.slice aP LA.length cP),(11,.slice aQ LB.length cQ),(1,.slice aA a.length cA),(2,.slice aB b.length cB),(3,.pointer (some ⟨b3,0,none⟩))],[(b3,(moV P aD d.length cD).cells,24)]⟩)
   (fun m u=>u=v2∧m≤a.length+b.length∧∀j,j<m→∀u,Two a.length b.length j u→¬B3l d a b u) (fun m=>a.length+b.length-m) 0 ⟨Y,rg,cntL⟩ (Le.refl _) ⟨Y,Nat.zero_le _,fun j hj=>absurd hj (Nat.not_lt_zero _)⟩ ?_
  rintro m u ⟨rfl,hm,hno⟩
  refine su ?_
  refine A1i Y (fun h=>?_) (fun h=>?_)
  ·have hlt:m<a.length+b.length:=by have:=of_decide_eq_true h;omega
   clear h
   refine su ?_
   refine A1q (α:=Nat) (fun i=>⟨[],[(13,.int .i64 i),(12,.int .i64 m),(10,.slice aP LA.length cP),(11,.slice aQ LB.length cQ),(1,.slice aA a.length cA),(2,.slice aB b.length cB),(3,.pointer (some ⟨b3,0,none⟩))],[(b3,(moV P aD d.length cD).cells,24)]⟩)
    (fun i w=>w=u∧i≤LA.length∧∀j,j<i→∀s,LA[j]?=some s→∀t∈LB,NoR d a b m s t) (fun i=>LA.length-i) 0 ⟨Y,rg,cntL⟩ (Le.refl _) ⟨Y,Nat.zero_le _,fun j hj=>absurd hj (Nat.not_lt_zero _)⟩ ?_
   rintro i w ⟨rfl,hi,hnoi⟩
   refine su ?_
   refine A1i Y (fun h=>?_) (fun h=>?_)
   ·have hli:i<LA.length:=by have:=of_decide_eq_true h;omega
    clear h
    obtain⟨b1,o1,p1,k1,e1,f1,ai,ci,rfl,hw1,hc1,rxi⟩:=rows_at rP hP hli
    have hxi:LA[i]?=some LA[i]:=List.getElem?_eq_getElem hli
    have hx4:=hA.size _ (List.getElem_mem hli)
    generalize LA[i]=xi at hc1 rxi hxi hx4
    refine su ?_
    refine A1q (α:=Nat) (fun k=>⟨[],[(14,.int .i64 k),(13,.int .i64 i),(12,.int .i64 m),(10,.slice (some ⟨b1,o1,none⟩) LA.length cP),(11,.slice aQ LB.length cQ),(1,.slice aA a.length cA),(2,.slice aB b.length cB),(3,.pointer (some ⟨b3,0,none⟩))],[(b3,(moV P aD d.length cD).cells,24)]⟩)
     (fun k z=>z=w∧k≤LB.length∧∀j,j<k→∀t,LB[j]?=some t→NoR d a b m xi t) (fun k=>LB.length-k) 0 ⟨Y,rg,cntL⟩ (Le.refl _) ⟨Y,Nat.zero_le _,fun j hj=>absurd hj (Nat.not_lt_zero _)⟩ ?_
    rintro k z ⟨rfl,hk,hnok⟩
    refine su ?_
    refine A1i Y (fun h=>?_) (fun h=>?_)
    ·have hlk:k<LB.length:=by have:=of_decide_eq_true h;omega
     clear h
     obtain⟨b2,o2,p2,k2,e2,f2,aj,cj,rfl,hw2,hc2,ryk⟩:=rows_at rQ hQ hlk
     have hyk:LB[k]?=some LB[k]:=List.getElem?_eq_getElem hlk
     have hy4:=hB.size _ (List.getElem_mem hlk)
     generalize LB[k]=yk at hc2 ryk hyk hy4
     have hnext:NoR d a b m xi yk→∀j,j<k+1→∀t,LB[j]?=some t→NoR d a b m xi t:=fun hn j hj t ht=>by
      by_cases e:j=k
      ·subst e;rw [hyk]at ht;obtain rfl:=Option.some.inj ht;exact hn
      ·exact hnok j oM t ht
     refine su ?_
     by_cases hs:xi.length+yk.length=m
     ·refine A1d [19,25,29] [0,1,2,3,4,5,6,7,8,9,10,11,12,13,14,15,16,17,18,20,21,22,23,24,26,27,28,19,25,29,30,31,32] A1e Y kR ?_
      refine su ?_
      refine A0s tab i Y Y Y kR Y Y Y Y Y hli ?_
      refine su ?_
      refine A8v tab Y Y Y kR Y hw1 (A0l tab Y Y Y (by rw [Nat.mul_one];exact hc1)) ?_
      refine su ?_
      refine A0s tab k Y Y Y kR Y Y Y Y Y hlk ?_
      refine su ?_
      refine A8v tab Y Y Y kR Y hw2 (A0l tab Y Y Y (by rw [Nat.mul_one];exact hc2)) ?_
      refine su ?_
      rw [show(((xi.length:Nat):Int)+((yk.length:Nat):Int)==(m:Int))=true from by rw [beq_iff_eq];omega]
      refine su ?_
      refine A0s tab i Y Y Y kR Y Y Y Y Y hli ?_
      refine su ?_
      refine A8v tab Y Y Y kR Y hw1 (A0l tab Y Y Y (by rw [Nat.mul_one];exact hc1)) ?_
      refine su ?_
      refine A0s tab k Y Y Y kR Y Y Y Y Y hlk ?_
      refine su ?_
      refine A8v tab Y Y Y kR Y hw2 (A0l tab Y Y Y (by rw [Nat.mul_one];exact hc2)) ?_
      refine su ?_
      refine S_tree (Sp:=spStk a b (zs xi) (zs yk)) (pre:=fun _=>[]) [19,25] (fun i=>i+49) dM dM (fun j hj=>?_) dM dM (fun j hj=>?_) (by repeat (first|exact trivial|(refine⟨?_,?_⟩;focus exact ib))) kR (fun j hj c hc u' hu'=>?_) (fun c hc hz=>?_)
      ·simp only [List.mem_cons,List.not_mem_nil,or_false]at hj
       rcases hj with rfl|rfl<;>rfl
      ·simp only [List.mem_cons,List.not_mem_nil,or_false]at hj
       rcases hj with rfl|rfl<;>exact⟨fun o ho=>by cases ho;rfl,rfl⟩
      ·simp only [List.mem_cons,List.not_mem_nil,or_false]at hj
       rcases hj with rfl|rfl
       ·exact A0o [] _ Y bod46 Y Y Y Y Y A7s (leftZ_x ((ha2.le hu').le (A0g _ _)) ((rxi.le hu').le (A0g _ _)) oM oM) (fun y β' hR=>⟨Y,_,_,hR,Y⟩)
       ·exact A0o [] _ Y bod46 Y Y Y Y Y A7s (leftZ_x ((hb2.le hu').le (A0g _ _)) ((ryk.le hu').le (A0g _ _)) oM oM) (fun y β' hR=>⟨Y,_,_,hR,Y⟩)
      obtain⟨a19,c19,e19,hS19⟩:OwnI 26 4 (c 19).1 (c 19).2 (A3b a (zs xi)).length ((A3b a (zs xi)).map MA.cells).flatten:=hc 19 dM dM
      obtain⟨a25,c25,e25,hS25⟩:OwnI 26 4 (c 25).1 (c 25).2 (A3b b (zs yk)).length ((A3b b (zs yk)).map MA.cells).flatten:=hc 25 dM dM
      simp only [netR,netβ,e19,e25]
      generalize (c 19).2=sgA at hS19⊢
      generalize (c 25).2=sgB at hS25⊢
      clear hc hz e19 e25
      have hL2:=LOk_left hL (zs xi) (zs yk)
      have hla2:=hL2.la
      have hlb2:=hL2.lb
      have hrt:B3l d a b (zs xi,zs yk)↔To.ways (A3b a (zs xi)) (A3b b (zs yk)) ⟨[],[],d⟩≠[]:=Iff.rfl
      have hwl:=A9d (a:=A3b a (zs xi)) (b:=A3b b (zs yk)) (w:=⟨[],[],d⟩) (n:=8) oM
      rw [show(3:Nat)^8=6561 from rfl]at hwl
      refine su ?_
      refine S_do kR (A_bok fun hbk1=>A0o [] (sgA++(sgB++[(b3,(moV P aD d.length cD).cells,24)])) Y bod102 Y Y Y Y Y A7s (waysR_x 8 (a:=A3b a (zs xi)) (b:=A3b b (zs yk)) (w:=⟨[],[],d⟩) (y:=rwC none 0 0 none 0 0 aD d.length cD) oM (Nat.le_refl _) (RowAt.own hbk1 (by exact cntL) hS19) (RowAt.own hbk1 (by exact cntL) hS25) hS19.cap hS25.cap ⟨none,0,none,0,aD,cD,Y,.inl Y,.inl Y,hd2.le (A0g _ _)⟩ (fun x hx _=>(hL2.a x hx).h) (fun x hx _=>(hL2.b x hx).h) (by show 0+8≤100;decide) (by show 0+8≤100;decide) (by show d.length<2^20;omega)) (fun x β' hR=>⟨Le.refl _,kp,?_⟩))
      obtain⟨al,cl,segO,segR,rows,rfl,rfl,hO,hon,hR⟩:=hR
      generalize To.ways (A3b a (zs xi)) (A3b b (zs yk)) ⟨[],[],d⟩=l at *
      clear hR hon
      refine su ?_
      by_cases hl0:l=[]
      ·subst hl0
       refine su ?_
       exact A0b ⟨k+1,z,oM,⟨Y,rg,cntL⟩,Le.refl _,Y,hlk,hnext fun _ e=>hrt.1 e Y⟩
      ·have hll:l.length≠0:=fun e=>hl0 (List.length_eq_zero_iff.1 e)
       rw [show decide (((l.length:Nat):Int) > 0)=true from decide_eq_true oM]
       refine su ?_
       refine A1m tab i Y Y Y Y Y Y Y hli ?_
       refine su ?_
       refine A4l tab Y Y Y hw1 (A0l tab Y Y Y (by rw [Nat.mul_one];exact hc1)) ?_
       refine su ?_
       refine A1m tab k Y Y Y Y Y Y Y hlk ?_
       refine su ?_
       refine A4l tab Y Y Y hw2 (A0l tab Y Y Y (by rw [Nat.mul_one];exact hc2)) ?_
       refine su ?_
       refine A2m tab (by exact .tmp rfl (.tmp rfl (.tmp rfl .nil))) hv1 fun hb2 hle=>?_
       refine⟨ai,ci,aj,cj,(0,zs xi,zs yk),?_,rxi.le hle,ryk.le hle,fun r' hr'=>B3m hL hr' hno (pairs_best hA hB hxi hyk hnoi hnok hs (hrt.2 hl0))⟩
       simp only [zs,List.length_map];rfl
     ·refine XC_lex A1e Y kR ?_
      refine su ?_
      refine A1m tab i Y Y Y Y Y Y Y hli ?_
      refine su ?_
      refine A4l tab Y Y Y hw1 (A0l tab Y Y Y (by rw [Nat.mul_one];exact hc1)) ?_
      refine su ?_
      refine A1m tab k Y Y Y Y Y Y Y hlk ?_
      refine su ?_
      refine A4l tab Y Y Y hw2 (A0l tab Y Y Y (by rw [Nat.mul_one];exact hc2)) ?_
      refine su ?_
      rw [show(((xi.length:Nat):Int)+((yk.length:Nat):Int)==(m:Int))=false from by rw [beq_eq_false_iff_ne];omega]
      refine su ?_
      exact A0b ⟨k+1,z,oM,⟨Y,rg,cntL⟩,Le.refl _,Y,hlk,hnext fun e=>absurd e hs⟩
    ·have hkn:k=LB.length:=by have:=of_decide_eq_false h;omega
     clear h
     subst hkn
     refine su ?_
     refine A0b ⟨i+1,z,oM,⟨Y,rg,cntL⟩,Le.refl _,Y,hli,fun j hj s hs t ht=>?_⟩
     by_cases e:j=i
     ·subst e;rw [hxi]at hs;obtain rfl:=Option.some.inj hs
      obtain⟨k',hk'⟩:=List.getElem?_of_mem ht
      exact hnok k' (List.getElem?_eq_some_iff.1 hk').1 t hk'
     ·exact hnoi j oM s hs t ht
   ·have hin:i=LA.length:=by have:=of_decide_eq_false h;omega
    clear h
    subst hin
    refine su ?_
    refine A0b ⟨m+1,w,oM,⟨Y,rg,cntL⟩,Le.refl _,Y,hlt,fun j hj u hu=>?_⟩
    by_cases e:j=m
    ·subst e;exact pairs_none hA hB hnoi u hu
    ·exact hno j oM u hu
  ·have hmn:m=a.length+b.length:=by have:=of_decide_eq_false h;omega
   clear h
   subst hmn
   obtain⟨hla2,ea⟩:=List.getElem?_eq_some_iff.1 hA.last
   obtain⟨hlb2,eb⟩:=List.getElem?_eq_some_iff.1 hB.last
   obtain⟨b1,o1,p1,k1,e1,f1,ai,ci,rfl,hw1,hc1,rxi⟩:=rows_at rP hP hla2
   obtain⟨b2,o2,p2,k2,e2,f2,aj,cj,rfl,hw2,hc2,ryk⟩:=rows_at rQ hQ hlb2
   rw [ea]at hc1 rxi
   rw [eb]at hc2 ryk
   refine su ?_
   refine A1m tab a.length Y Y Y Y Y Y Y hla2 ?_
   refine su ?_
   refine A4l tab Y Y Y hw1 (A0l tab Y Y Y (by rw [Nat.mul_one];exact hc1)) ?_
   refine su ?_
   refine A1m tab b.length Y Y Y Y Y Y Y hlb2 ?_
   refine su ?_
   refine A4l tab Y Y Y hw2 (A0l tab Y Y Y (by rw [Nat.mul_one];exact hc2)) ?_
   refine su ?_
   refine A2m tab (by exact .tmp rfl (.tmp rfl (.tmp rfl .nil))) hv1 fun hb2 hle=>?_
   refine⟨ai,ci,aj,cj,(0,zs (List.range a.length),zs (List.range b.length)),?_,rxi.le hle,ryk.le hle,fun r' hr'=>B3m hL hr' hno (full_best hla hlb hno)⟩
   simp only [zs,List.length_map];rfl
 ·refine su ?_
  rw [show(layE P d a b != 0)=true from by simpa using h1]
  refine su ?_
  refine A2m tab (by exact .tmp rfl (.tmp rfl (.tmp rfl .nil))) (Le.refl _) fun hb2 hle=>?_
  refine⟨none,0,none,0,(layE P d a b,[],[]),Y,.inl Y,.inl Y,fun r' hr'=>?_⟩
  unfold A8t at hr'
  rw [if_pos h1]at hr'
  exact hr'
end
end Go.Proofs.YtclejblcnfaeaaaGreat
end
