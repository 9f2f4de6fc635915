/- 'palfreylaw12.TollHolds' returns true for every argument, whatever the goroutines of its calls do, and the arguments read as they did, as its row says it. No condition. -/
import Derived.ChangeSame
import Derived.ChangeVars
import Derived.Conc.Holds
import Derived.Conc.LeavingOf
import Derived.Deep.Fields
import Derived.Deep.Slices
import Derived.Handed
import Derived.JoinedOf
import Derived.LaidHandle
import Derived.LaidLaws
import Derived.Lib.SmallJoins
import Derived.OpenShut
import Derived.ProofKit
import Derived.SevenTiedAt
import Derived.Test.YtclejblcnfaeaaaGreatDoorCards
import Derived.Test.YtclejblcnfaeaaaGreatDoorTie
import Derived.WalkKit
import Derived.Test.YtclejblcnfaeaaaGreatDoorQholdsc
set_option linter.all false
section
namespace Go.Proofs.YtclejblcnfaeaaaGreatDoor
open Go Go.Pal Go.Pal.To Go.Conc Go.ConcM Go.RowKit Go.ChangeShapes Go.WideShapes Go.ChangeAt Go.Deep
set_option maxHeartbeats 4000000
set_option maxRecDepth 100000
structure Opened(W:World)(v:View):Prop where
 ag:v.Agree W
 ro:∀b,¬v.Owns b
theorem opened0(W:World):Opened W (fun _=>none):=⟨(fun b p o h=>nomatch (show none=some (p,o)from h)),(fun b h=>by obtain⟨o,h⟩:=h;cases h)⟩
theorem Opened.both{W:World}{u v:View}(hu:Opened W u)(hv:Opened W v):Opened W (u.union v)∧u.Le (u.union v)∧v.Le (u.union v):=by
 have key:∀b,(u.union v) b=u b∨(u.union v) b=v b:=fun b=>by
  unfold View.union
  cases u b with
  | none=>exact .inr rfl
  | some x=>exact .inl rfl
 refine⟨⟨fun b p o h=>?_,fun b h=>?_⟩,(fun b x h=>by unfold View.union;rw [h]),fun b x h=>?_⟩
 ·rcases key b with e|e
  ·exact hu.ag b p o (e ▸ h)
  ·exact hv.ag b p o (e ▸ h)
 ·obtain⟨o,h⟩:=h
  rcases key b with e|e
  ·exact hu.ro b ⟨o,e ▸ h⟩
  ·exact hv.ro b ⟨o,e ▸ h⟩
 ·unfold View.union
  cases hb:u b with
  | none=>exact h
  | some y=>
   obtain⟨p,o⟩:=y
   obtain⟨p',o'⟩:=x
   have e1:=hu.ag b p o hb
   have e2:=hv.ag b p' o' h
   rw [e1]at e2
   cases e2
   have f1:p=false:=by
    cases p with
    | false=>rfl
    | true=>exact absurd ⟨_,hb⟩ (hu.ro b)
   have f2:p'=false:=by
    cases p' with
    | false=>rfl
    | true=>exact absurd ⟨_,h⟩ (hv.ro b)
   rw [f1,f2]
theorem row_view{W:World}{a:Addr}{cs:List Value}(hc:∀(i:Nat) (x:Value),cs[i]?=some x→W.cell? (a.add i)=some x):∃v,Opened W v∧RowAt v (some a) cs:=by
 cases cs with
 | nil=>exact⟨_,opened0 W,.inl rfl⟩
 | cons y l=>
  obtain⟨b,off,spot⟩:=a
  have h00:=hc 0 y Y
  have hspot:spot=none:=by simpa [Addr.add]using World.cell?_spot h00
  subst hspot
  have hc':∀(i:Nat) (x:Value),(y::l)[i]?=some x→W.cell? ⟨b,off+i,none⟩=some x:=fun i x hi=>by
   have:=hc i x hi
   rwa [add_plain]at this
  obtain⟨c,e,f,hO⟩:∃c e f,W.heap[b]?=some (.cells c e f):=by
   have:=hc' 0 y Y
   unfold World.cell? at this
   split at this
   ·rename_i c e f h;exact⟨c,e,f,h⟩
   ·cases this
  have hcc:∀(i:Nat) (x:Value),(y::l)[i]?=some x→c[off+i]?=some x:=fun i x hi=>by
   have:=hc' i x hi
   unfold World.cell? at this
   rw [hO]at this
   simpa using this
  refine⟨fun k=>if k=b then some (false,.cells c e f)else none,⟨fun k p o h=>?_,fun k h=>?_⟩,.inr ⟨b,off,false,c,e,f,Y,if_pos Y,?_,hcc⟩⟩
  ·replace h:(if k=b then some (false,Obj.cells c e f)else none)=some (p,o):=h
   by_cases hk:k=b
   ·subst hk
    rw [if_pos rfl]at h
    cases h
    exact hO
   ·rw [if_neg hk]at h;cases h
  ·obtain⟨o,h⟩:=h
   replace h:(if k=b then some (false,Obj.cells c e f)else none)=some (true,o):=h
   by_cases hk:k=b
   ·rw [if_pos hk]at h;cases h
   ·rw [if_neg hk]at h;cases h
  ·have h1:=hcc l.length ((y::l)[l.length]' sM) (List.getElem?_eq_getElem _)
   have h2:=(Array.getElem?_eq_some_iff.1 h1).1
   simp only [List.length_cons]
   omega
theorem list_of{α:Type}{n:Nat}{p:Nat→α→Prop}(h:∀i,i<n→∃x,p i x):∃l:List α,l.length=n∧∀i (hi:i<l.length),p i l[i]:=by
 induction n with
 | zero=>exact⟨[],rfl,fun i hi=>absurd hi (Nat.not_lt_zero _)⟩
 | succ n ih=>
  obtain⟨l,hl,hp⟩:=ih fun i hi=>h i oM
  obtain⟨x,hx⟩:=h n oM
  refine⟨l++[x],by simp [hl],fun i hi=>?_⟩
  by_cases e:i<l.length
  ·rw [List.getElem_append_left e];exact hp i e
  ·have hi':i=l.length:=by simp at hi;omega
   subst hi'
   simp
   rw [hl];exact hx
theorem acts_at:∀{ws:List MA} {k:Nat} {y:Value},(ws.map MA.cells).flatten[k]?=some y→∃(i:Nat) (hi:i<ws.length) (j:Nat),j<4∧k=i*4+j∧(MA.cells ws[i])[j]?=some y
 | [],k,y,h=>by simp at h
 | x::ws,k,y,h=>by
  rw [List.map_cons,List.flatten_cons]at h
  by_cases hk:k<4
  ·rw [List.getElem?_append_left (by exact hk)]at h
   exact⟨0,by simp,k,hk,oM,h⟩
  ·rw [List.getElem?_append_right (by show 4≤k;omega)]at h
   obtain⟨i,hi,j,hj,e,hx⟩:=acts_at h
   have e':k-4=i*4+j:=e
   exact⟨i+1,by simp;omega,j,hj,oM,by simpa using hx⟩
section
variable{H:Type}{enc:TypeId×Value→H}{P:Program}{w:World}{base:Nat}{spare:Nat→Bool}{held:Bool}
theorem B3a{t e:TypeId}{fs:Array Field}{fuel:Nat}{cs:List Value}{x:DataW H×List MemPlace}(ht:P.underlying t=some (.slice e))(he:P.underlying e=some (.struct fs))
  (hone:oneCellFields P fs=true)(hC:P.cellsOf e=fs.size)(h:DataW.trod enc P w base spare held fuel t cs=some x) :
  (cs=[.slice none 0 0]∧x=(.nil,[]))∨
  ∃ (a:Addr) (len cap m:Nat),cs=[.slice (some a) len cap]∧len≤cap∧m=(if spare a.block then cap else len)∧
   ∀i,i<m→∃n:Nat,∀(j:Nat) (f:Field),fs[j]?=some f→∃(v:Value) (y:DataW H×List MemPlace),w.cell? (a.add (i*fs.size+j))=some v∧DataW.trod enc P w base spare held n f.type [v]=some y:=by
 rcases open_slice ht h with h0|⟨a,len,cap,m,n,D,Pl,hcs,hb,hl,hm,hmm,hx,hi⟩
 ·exact .inl h0
 ·refine .inr ⟨a,len,cap,m,hcs,hl,hmm,fun i him=>?_⟩
  obtain⟨cs',hc,ht'⟩:=hi i him
  rw [hC]at hc
  obtain⟨ys,n',hn',hy,hlen,hyl,hf⟩:=DataW.trod_struct he ht'
  obtain⟨_,hcl,hat⟩:=World.cells?_some hc
  refine⟨n',fun j f hj=>?_⟩
  obtain⟨ho,hk⟩:=hone_of hone j f hj
  have hjl:j<fs.size:=(Array.getElem?_eq_some_iff.1 hj).1
  have hcell:=hat j hjl
  have hv:cs'[j]?=some (cs'[j]' oM):=List.getElem?_eq_getElem oM
  have h1:=hf j f hj
  rw [ho,hk]at h1
  have hone':(cs'.drop j).take 1=[cs'[j]' oM]:=by
   rw [List.drop_eq_getElem_cons oM]
   rfl
  rw [hone']at h1
  have hys:ys[j]?=some (ys[j]' oM):=List.getElem?_eq_getElem oM
  refine⟨_,_,?_,h1.trans hys⟩
  rw [←Go.Deep.add_add,hcell,hv]
end
section
variable{H:Type}{enc:TypeId×Value→H}{W:World}
theorem ints_view{fuel:Nat}{c:Value}{x:DataW H×List MemPlace}(h:DataW.trod enc Tryz.prog W 0 (fun _=>true) true fuel 22 [c]=some x):∃(a:Option Addr) (cap:Nat) (ns:List Int) (v:View),c = .slice a ns.length cap∧Opened W v∧RowAt v a (ns.map (.int .i64)):=by
 rcases open_ints Tryz.underlying22 Tryz.underlying3 cells3 h with ⟨hcs,hx⟩|⟨a,len,cap,zs,hcs,_,hl,hm,hz,hx,hcell,hwz⟩
 ·cases hcs
  exact⟨none,0,[],_,Y,opened0 W,.inl Y⟩
 ·cases hcs
  simp only [if_true]at hz
  have hlen:(zs.take len).length=len:=by rw [List.length_take];omega
  obtain⟨v,hv,hr⟩:=row_view (W:=W) (a:=a) (cs:=(zs.take len).map (.int .i64)) fun i x hi=>by
   rw [List.getElem?_map,Option.map_eq_some_iff]at hi
   obtain⟨y,hy,rfl⟩:=hi
   rw [List.getElem?_take]at hy
   split at hy
   ·rw [hcell i oM,List.getD_eq_getElem?_getD,hy];rfl
   ·cases hy
  exact⟨some a,cap,zs.take len,v,by rw [hlen],hv,hr⟩
theorem cells26:Tryz.prog.cellsOf 40=4:=by kernel_rfl
theorem words_view{fuel:Nat}{c:Value}{x:DataW H×List MemPlace}(h:DataW.trod enc Tryz.prog W 0 (fun _=>true) true fuel 28 [c]=some x):∃(a:Option Addr) (cap:Nat) (ws:List MA) (v:View),c = .slice a ws.length cap∧ws.length≤cap∧Opened W v∧ActsAt v a ws:=by
 rcases B3a Tryz.underlying28 Tryz.underlying40 kR cells26 h with ⟨hcs,hx⟩|⟨a,len,cap,m,hcs,hl,hm,hf⟩
 ·cases hcs
  exact⟨none,0,[],_,Y,Nat.le_refl _,opened0 W,.inl Y⟩
 ·cases hcs
  simp only [if_true]at hm
  subst hm
  obtain⟨ws,hws,hp⟩:=list_of (α:=MA) (n:=len) (p:=fun i x=>∀(j:Nat) (y:Value),(MA.cells x)[j]?=some y→W.cell? (a.add (i*4+j))=some y) fun i hi=>by
   obtain⟨n,hj⟩:=hf i oM
   obtain⟨v0,y0,k0,t0⟩:=hj 0 _ rfl
   obtain⟨v1,y1,k1,t1⟩:=hj 1 _ rfl
   obtain⟨v2,y2,k2,t2⟩:=hj 2 _ rfl
   obtain⟨v3,y3,k3,t3⟩:=hj 3 _ rfl
   obtain⟨n0,e0,-,-⟩:=DataW.trod_int Tryz.underlying3 t0
   obtain⟨n1,e1,-,-⟩:=DataW.trod_int Tryz.underlying3 t1
   obtain⟨n2,e2,-,-⟩:=DataW.trod_int Tryz.underlying3 t2
   obtain⟨n3,e3,-,-⟩:=DataW.trod_int Tryz.underlying3 t3
   cases e0
   cases e1
   cases e2
   cases e3
   refine⟨⟨n0,n1,n2,n3⟩,fun j y hy=>?_⟩
   match j,hy with
   | 0,hy=>cases hy;exact k0
   | 1,hy=>cases hy;exact k1
   | 2,hy=>cases hy;exact k2
   | 3,hy=>cases hy;exact k3
   | j+4,hy=>exact absurd hy (by simp [MA.cells])
  obtain⟨v,hv,hr⟩:=row_view (W:=W) (a:=a) (cs:=(ws.map MA.cells).flatten) fun k y hk=>by
   obtain⟨i,hi,j,hj,rfl,hx⟩:=acts_at hk
   exact hp i hi j y hx
  exact⟨some a,m,ws,v,by rw [hws],oM,hv,hr⟩
theorem row24:Tryz.prog.readableRec 26=true:=by kernel_rfl
theorem lt24:26<Tryz.prog.types.size:=of_decide_eq_true kR
theorem row26:Tryz.prog.readableRec 40=true:=by kernel_rfl
theorem lt26:40<Tryz.prog.types.size:=of_decide_eq_true kR
theorem row42:Tryz.prog.readableRec 28=true:=by kernel_rfl
theorem lt42:28<Tryz.prog.types.size:=of_decide_eq_true kR
variable{base:Nat}{v0:Value}{d0:DataW H}{p:List MemPlace}
def Still(enc:TypeId×Value→H)(W:World)(t:TypeId)(v0:Value)(d0:DataW H)(p:List MemPlace):Prop:=∀w':World,Below W.heap.size W w'→DataW.Trod enc Tryz.prog w' 0 (fun b=>decide (b<W.heap.size)) true t v0 d0 p
theorem openM(hval:Value.okWide Tryz.prog W .any base 26 v0)(h0:DataW.Trod enc Tryz.prog W 0 (fun _=>true) true 26 v0 d0 p)(hlt:∀x∈p,x.block<W.heap.size) :
  ∃(P:Int) (a:Option Addr) (d:List Int) (cap:Nat) (v:View),v0=moV P a d.length cap∧Opened W v∧RowAt v a (d.map intV)∧Still enc W 26 v0 d0 p:=by
 have hargs:Still enc W 26 v0 d0 p:=fun w' hb=>Below.trod laid row24 lt24 h0 hb hlt
 obtain⟨c0,c1,y0,y1,n,rfl,-,-,t0,t1⟩:=Go.Joins.open_agg2 Tryz.underlying26 kR kR hval h0
 obtain⟨n0,e0,-,-⟩:=DataW.trod_int Tryz.underlying3 t0
 cases e0
 obtain⟨a,cap,d,v,rfl,h2,h3⟩:=ints_view t1
 exact⟨n0,a,d,cap,v,Y,h2,h3,hargs⟩
theorem openA(hval:Value.okWide Tryz.prog W .any base 40 v0)(h0:DataW.Trod enc Tryz.prog W 0 (fun _=>true) true 40 v0 d0 p)(hlt:∀x∈p,x.block<W.heap.size) :
  ∃x:MA,v0=x.val∧Still enc W 40 v0 d0 p:=by
 have hargs:Still enc W 40 v0 d0 p:=fun w' hb=>Below.trod laid row26 lt26 h0 hb hlt
 obtain⟨c0,c1,c2,c3,y0,y1,y2,y3,n,rfl,-,-,t0,t1,t2,t3⟩:=Go.Joins.open_agg4 Tryz.underlying40 kR kR hval h0
 obtain⟨n0,e0,-,-⟩:=DataW.trod_int Tryz.underlying3 t0
 obtain⟨n1,e1,-,-⟩:=DataW.trod_int Tryz.underlying3 t1
 obtain⟨n2,e2,-,-⟩:=DataW.trod_int Tryz.underlying3 t2
 obtain⟨n3,e3,-,-⟩:=DataW.trod_int Tryz.underlying3 t3
 cases e0
 cases e1
 cases e2
 cases e3
 exact⟨⟨n0,n1,n2,n3⟩,Y,hargs⟩
theorem openB(hval:Value.okWide Tryz.prog W .any base 28 v0)(h0:DataW.Trod enc Tryz.prog W 0 (fun _=>true) true 28 v0 d0 p)(hlt:∀x∈p,x.block<W.heap.size) :
  ∃(a:Option Addr) (cap:Nat) (l:List MA) (v:View),v0 = .slice a l.length cap∧l.length≤cap∧Opened W v∧ActsAt v a l∧Still enc W 28 v0 d0 p:=by
 have hargs:Still enc W 28 v0 d0 p:=fun w' hb=>Below.trod laid row42 lt42 h0 hb hlt
 obtain⟨a,len,cap,rfl⟩:=okWide_slice Tryz.underlying28 hval
 obtain⟨fuel,hf⟩:=h0
 obtain⟨a,cap,l,v,e,h1,h2,h3⟩:=words_view (c:=.slice a len cap) hf
 exact⟨a,cap,l,v,e,h1,h2,h3,hargs⟩
theorem openL(hval:Value.okWide Tryz.prog W .any base 22 v0)(h0:DataW.Trod enc Tryz.prog W 0 (fun _=>true) true 22 v0 d0 p)(hlt:∀x∈p,x.block<W.heap.size) :
  ∃(a:Option Addr) (cap:Nat) (ns:List Int) (v:View),v0 = .slice a ns.length cap∧Opened W v∧RowAt v a (ns.map (.int .i64))∧Still enc W 22 v0 d0 p:=by
 have hargs:Still enc W 22 v0 d0 p:=fun w' hb=>Below.trod laid row22 lt22 h0 hb hlt
 obtain⟨a,len,cap,rfl⟩:=okWide_slice Tryz.underlying22 hval
 obtain⟨fuel,hf⟩:=h0
 obtain⟨a,cap,ns,v,e,h1,h2⟩:=ints_view (c:=.slice a len cap) hf
 exact⟨a,cap,ns,v,e,h1,h2,hargs⟩
end
end Go.Proofs.YtclejblcnfaeaaaGreatDoor
end
section
namespace Go.Pal
open Go Go.Conc
section
variable{H:Type}{enc:TypeId×Value→H}
theorem leaving_and{a:Assume}{C:Checked}{os:Os}{f:FuncId}{fn:Func}{s:ChangeSpec}{conds:List PathCond}{apart fresh handsOn again:Bool}{X:World→Array Value→Prop}
  (hX:∀(w w':World) (args:Array Value),w.heap=w'.heap→X w args→X w' args)
  (own:ownKnob C.prog.godebug=none)(started:os.Started)(hfn:C.prog.funcs[f]?=some fn)
  (witness:∃(w:World) (tape:Tape) (i:Input),w.os=os∧(w.forCall tape i).Shaped C.prog∧i.vars=[]∧Input.okWide C.prog (w.forCall tape i) .any w.heap.size f i∧
   ((s.pre enc C.prog fn conds apart (w.forCall tape i).memory i.args∧X (w.forCall tape i).memory i.args)∧sizedMet enc C.prog fn (OpenSpec.ofChange s) apart (w.forCall tape i).memory i.args)∧a.holds C.prog (lone (Frame.enter C.prog f i.args .normal) [] (w.forCall tape i)))
  (runs:∀(W:World) (base:Nat) (args:Array Value) (ds gs:List (DataW H)) (before:List MemPlace),
   (∀(j:Nat) t v,fn.params[j]?=some t→args[j]?=some v→Value.okWide C.prog W .any base t v)→
   DataW.Whole enc C.prog fn.params.toList s.vars apart W args.toList ds gs before→
   X W args→
   ∃ M last o w' t',runNT C.prog (M+1) (solo (G (Frame.enter C.prog f args .normal) []) W) #[]=(.ended o w',t')∧runN C.prog M (solo (G (Frame.enter C.prog f args .normal) []) W) = .next last∧
    step C.prog last = .ended o w'∧Conc.Good C.prog (fun v W'=>s.post enc C.prog fn apart fresh handsOn again W args v W') last o w' t') :
  ReturnsInLeavingWide a C os f .any (fun w args=>(s.pre enc C.prog fn conds apart w args∧X w args)∧sizedMet enc C.prog fn (OpenSpec.ofChange s) apart w args) (s.post enc C.prog fn apart fresh handsOn again):=by
 refine returnsInLeavingWide_of_good own started witness ?_
 intro w tape i _ _ _ hok hpre hholds
 obtain⟨_,_,_,fn',hfn',_,_,_,_,hval⟩:=hok
 have e:fn'=fn:=Option.some.inj (hfn'.symm.trans hfn)
 subst e
 obtain⟨⟨⟨ds,gs,before,hw,hc⟩,hx⟩,hz⟩:=hpre
 have hw':=DataW.Whole.of_heap (w':=w.forCall tape i) (by rfl) hw
 obtain⟨M,last,o,w',t',h1,h2,h3,h4⟩:=runs (w.forCall tape i) w.heap.size i.args ds gs before hval hw' (hX _ _ _ (by rfl) hx)
 exact⟨M,last,o,w',t',h1,h2,h3,h4.mono fun v hp=>ChangeSpec.post_blind hp⟩
end
end Go.Pal
end
section
namespace Go.Proofs.YtclejblcnfaeaaaGreatDoor
open Go Go.ChangeShapes
theorem B3b{a b:Bool}(ha:a=true)(hb:b=true):(a&&b)=true:=by rw [ha,hb];rfl
theorem j4_0:(Rows.tollHoldsRow.wf (OpenSpec.ofChange Rows.tollHoldsSpec))=true:=by kernel_rfl
theorem j4_1:(laidOutB Tryz.prog)=true:=by kernel_rfl
theorem j4_2:(mapsRowed Tryz.prog)=true:=by kernel_rfl
theorem j4_3:(Tryz.f4.params.all (Tryz.prog.readableRec ·))=true:=by kernel_rfl
theorem j4_4:(namedTie Tryz.prog Rows.tollHoldsRow.named Rows.tollHoldsSpec.vars)=true:=by kernel_rfl
theorem j4_5:((Rows.tollHoldsRow.stops == []))=true:=by kernel_rfl
theorem j4_6:((Tryz.prog.stops == []))=true:=by kernel_rfl
theorem j4_7:((Rows.tollHoldsRow.knobs == []))=true:=by kernel_rfl
theorem j4_8:((Tryz.prog.stopKnobs == []))=true:=by kernel_rfl
theorem j4_9:((Rows.tollHoldsRow.inPlace==Tryz.prog.inPlace 4))=true:=by kernel_rfl
theorem j4_10:((Rows.tollHoldsRow.unfollowed==Tryz.prog.unfollowed 4))=true:=by kernel_rfl
theorem j4_11:((Rows.tollHoldsRow.recurses==Tryz.prog.recurses 4))=true:=by kernel_rfl
theorem j4_12:((Rows.tollHoldsRow.named==Tryz.prog.varsNamed 4))=true:=by kernel_rfl
theorem j4_13:((Rows.tollHoldsRow.maps==(Tryz.f4.params.toList++Rows.tollHoldsSpec.plain.varTypes Tryz.prog).any (Tryz.prog.mapsRec ·)))=true:=by kernel_rfl
theorem j4_14:((Rows.tollHoldsRow.ifaces==(Tryz.f4.params.toList++Rows.tollHoldsSpec.plain.varTypes Tryz.prog).any (Tryz.prog.ifacesRec ·)))=true:=by kernel_rfl
theorem j4_15:((Rows.tollHoldsRow.mapsOut==Tryz.prog.mapsAmong Tryz.f4.resultTypes.toList))=true:=by kernel_rfl
theorem j4_16:((Rows.tollHoldsRow.loops==(Tryz.f4.params.toList++Rows.tollHoldsSpec.plain.varTypes Tryz.prog).any (Tryz.prog.loopsFrom ·)))=true:=by kernel_rfl
theorem j4_17:((Rows.tollHoldsRow.wideKeys==(Tryz.f4.params.toList++Rows.tollHoldsSpec.plain.varTypes Tryz.prog++Tryz.f4.resultTypes.toList).any (Tryz.prog.wideKeysFrom ·)))=true:=by kernel_rfl
theorem j4_18:(Rows.tollHoldsSpec.vars.all (Tryz.prog.varReadable ·))=true:=by kernel_rfl
theorem j4_19:(Tryz.f4.resultTypes.all (fun t=>Tryz.prog.readableRec t&&decide (t<Tryz.prog.types.size)))=true:=by kernel_rfl
theorem j4_20:((Rows.tollHoldsRow.ifacesOut==Tryz.f4.resultTypes.toList.any (Tryz.prog.ifacesRec ·)))=true:=by kernel_rfl
theorem j4_21:((Rows.tollHoldsRow.loopsOut==Tryz.f4.resultTypes.toList.any (Tryz.prog.loopsFrom ·)))=true:=by kernel_rfl
theorem j4_22:((Rows.tollHoldsRow.plainKeys==Tryz.prog.plainKeys))=true:=by kernel_rfl
theorem j4_23:(Rows.tollHoldsRow.shortTexts.isNone)=true:=by kernel_rfl
theorem j4_24:(Tryz.prog.stopsHeard)=true:=by kernel_rfl
theorem j4_25:(Tryz.prog.mayEnter)=true:=by kernel_rfl
theorem j4_26:((Rows.tollHoldsRow.lifted==Tryz.prog.liftsFinal))=true:=by kernel_rfl
theorem j4_27:((Tryz.prog.make==some Rows.tollHoldsRow.make))=true:=by kernel_rfl
theorem j4_28:((Rows.tollHoldsRow.kinds==(if Rows.tollHoldsRow.domain.isEmpty then []else Tryz.f4.params.toList.map fun t=>match Tryz.prog.underlying t with|some (.int k)=>some k|_=>none)))=true:=by kernel_rfl
theorem j4_29:((Rows.tollHoldsRow.pinned==Rows.tollHoldsRow.pinnedBy))=true:=by kernel_rfl
theorem j4_30:((Rows.tollHoldsRow.veiled==(Tryz.f4.params.toList++Rows.tollHoldsSpec.plain.varTypes Tryz.prog++Tryz.f4.resultTypes.toList).any (Tryz.prog.veiledRec ·)))=true:=by kernel_rfl
theorem j4_31:(Rows.tollHoldsRow.veiledFits Tryz.prog Tryz.f4.params.toList (Tryz.f4.params.toList++Rows.tollHoldsSpec.plain.varTypes Tryz.prog++Tryz.f4.resultTypes.toList))=true:=by kernel_rfl
set_option maxRecDepth 100000 in
theorem j4:joinedFacts Tryz.prog 4 Tryz.f4 Rows.tollHoldsSpec Rows.tollHoldsRow=true:=B3b (B3b (B3b (B3b (B3b (B3b (B3b (B3b (B3b (B3b (B3b (B3b (B3b (B3b (B3b (B3b (B3b (B3b (B3b (B3b (B3b (B3b (B3b (B3b (B3b (B3b (B3b (B3b (B3b (B3b (B3b (j4_0) j4_1) j4_2) j4_3) j4_4) j4_5) j4_6) j4_7) j4_8) j4_9) j4_10) j4_11) j4_12) j4_13) j4_14) j4_15) j4_16) j4_17) j4_18) j4_19) j4_20) j4_21) j4_22) j4_23) j4_24) j4_25) j4_26) j4_27) j4_28) j4_29) j4_30) j4_31
end Go.Proofs.YtclejblcnfaeaaaGreatDoor
end
section
namespace Go.Proofs.YtclejblcnfaeaaaGreatDoor
open Go Go.Pal Go.Pal.To Go.Conc Go.ConcM Go.RowKit Go.ChangeShapes Go.WideShapes Go.ChangeAt
open View
theorem own_knob:ownKnob Tryz.prog.godebug=none:=by kernel_rfl
theorem et_g:Tryz.prog.globalNamed "errors.errorType" = some 0:=by kernel_rfl
theorem rt_t:(Tryz.prog.cutTypes.find? (·.1 == "internal/reflectlite.rtype")).map (·.2)=some 253:=by kernel_rfl
theorem one_row:((List.range 382).filter fun t=>Tryz.prog.rowNamed t [101,114,114,111,114])=[101]:=by kernel_rfl
theorem ty_size:Tryz.prog.types.size=382:=by kernel_rfl
theorem handle_of_laid{W:World}(h:laidMetH Tryz.prog Rows.tollHoldsRow.laid W):W.cell? ⟨0,0,none⟩=some (rtV 101):=by
 have h':laidMet Tryz.prog [] W∧handlesMet Tryz.prog Rows.tollHoldsRow.laid W:=h
 obtain⟨name,u,ty,e1,e2,e3,e4,e5⟩:=h'.2 _ (List.mem_singleton.2 rfl)
 have en:name=[101,114,114,111,114]:=(Option.some.inj e1).symm
 subst en
 obtain rfl:=Option.some.inj (rt_t.symm.trans e2)
 have hm:ty∈(List.range 382).filter fun t=>Tryz.prog.rowNamed t [101,114,114,111,114]:=List.mem_filter.2 ⟨List.mem_range.2 (by rw [←ty_size];exact e3),e4⟩
 rw [one_row]at hm
 obtain rfl:=List.mem_singleton.1 hm
 have hh:typeHandle Tryz.prog 101=hT 101:=by kernel_rfl
 rw [hh]at e5
 simpa using World.var?_cell et_g e5 0
noncomputable def laidWorld (os:Os) (args:Array Value):World:=
 let w0:=World.holding Tryz.prog os ⟨#[],args,[]⟩
 {w0 with heap:=w0.heap.modify 0 fun
   | .cells _ t frozen=>.cells #[rtV 101] t frozen
   | o=>o }
abbrev wArgs:Array Value:=#[.agg #[.int .i64 0,.slice none 0 0],.slice none 0 0,.agg #[.int .i64 0,.int .i64 0,.int .i64 0,.int .i64 0],.slice none 0 0]
theorem laidWorld_met(os:Os):laidMetH Tryz.prog Rows.tollHoldsRow.laid ((laidWorld os #[]).forCall (fun _ _=>0) ⟨#[],wArgs,[]⟩).memory:=
 laidMetH_of_parts (laidMet_nil _ _) kR
set_option maxRecDepth 100000 in
set_option maxHeartbeats 4000000 in
theorem holds_lifted(os:Os)(started:os.Started)(H:Type)(enc:TypeId×Value→H) :
  ReturnsInLeavingWide {} Tryz.checked os 4 .any (fun w args=>(Rows.tollHoldsSpec.pre enc Tryz.prog Tryz.f4 [] false w args∧laidMetH Tryz.prog Rows.tollHoldsRow.laid w)∧sizedMet enc Tryz.prog Tryz.f4 (OpenSpec.ofChange Rows.tollHoldsSpec) false w args) (Rows.tollHoldsSpec.post enc Tryz.prog Tryz.f4 false true false false):=by
 refine leaving_and (C:=Tryz.checked) (X:=fun w _=>laidMetH Tryz.prog Rows.tollHoldsRow.laid w) (fun _ _ _ hh h=>h.of_heap hh) own_knob started Tryz.func4
  (ChangeSpec.witness_at (enc:=enc) (C:=Tryz.checked) (os:=os) (X:=fun w _=>laidMetH Tryz.prog Rows.tollHoldsRow.laid w) false (laidWorld os #[]) wArgs 8 Y kR kR kR kR kR (laidWorld_met os)) ?_
 intro W base args ds gs before hval0 hW hL
 have hval:∀(j:Nat) t v,Tryz.f4.params[j]?=some t→args[j]?=some v→Value.okWide Tryz.prog W .any base t v:=hval0
 have hW':=hW
 obtain⟨p,q,hA0,hV,rfl,_,_⟩:=hW
 have hA:DataW.TrodAll enc Tryz.prog W 0 (fun _=>true) true Tryz.f4.params.toList args.toList ds p:=hA0
 rw [Tryz.params4]at hA hval
 obtain⟨v0,v1,v2,v3,d0,d1,d2,d3,p0,p1,p2,p3,rfl,rfl,rfl,h0,h1,h2,h3⟩:=trodAll_four hA
 obtain⟨rfl,rfl⟩:=trodVars_none hV
 clear hA0 hval0
 simp only [List.append_nil,List.append_assoc]at hW'
 have hlt:∀x∈p0++(p1++(p2++(p3))),x.block<W.heap.size:=fun x hx=>by simpa using hW'.lt x hx
 obtain⟨P0,a0,m0,c0,u0,rfl,hu0,hm0,hst0⟩:=openM (hval 0 26 v0 rfl rfl) h0 (fun x hx=>hlt x (by simp only [List.mem_append];simp [hx]))
 obtain⟨a1,c1,l1,u1,rfl,hc1,hu1,hm1,hst1⟩:=openB (hval 1 28 v1 rfl rfl) h1 (fun x hx=>hlt x (by simp only [List.mem_append];simp [hx]))
 obtain⟨xw,rfl,hst2⟩:=openA (hval 2 40 v2 rfl rfl) h2 (fun x hx=>hlt x (by simp only [List.mem_append];simp [hx]))
 obtain⟨a0_,cap0,ns,u3,rfl,hu3,hns,hst3⟩:=openL (hval 3 22 v3 rfl rfl) h3 (fun x hx=>hlt x (by simp only [List.mem_append];simp [hx]))
 obtain⟨u4,hu4,hgl⟩:=row_view (W:=W) (a:=⟨0,0,none⟩) (cs:=[rtV 101]) (fun i x hi=>by
  cases i with
  | zero=>cases hi;exact handle_of_laid hL
  | succ j=>simp at hi)
 obtain⟨hO0,la0,lb0⟩:=hu0.both hu1
 obtain⟨hO1,la1,lb1⟩:=hO0.both hu3
 obtain⟨hO2,la2,lb2⟩:=hO1.both hu4
 obtain⟨M,last,o,w',t',r1,r2,r3,r4⟩:=law_run (P:=Tryz.prog) (W:=W) (v:=(((u0.union u1).union u3).union u4)) (args:=[moV P0 a0 m0.length c0,.slice a1 l1.length c1,xw.val,.slice a0_ ns.length cap0]) Tryz.func4 rfl kR hO2.ag hO2.ro (holds_run (RowAt.le hgl lb2) (hm0.le ((la0.trans la1).trans la2)) (ActsAt.le hm1 ((lb0.trans la1).trans la2)) (RowAt.le hns (lb1.trans la2)))
 refine⟨M,last,o,w',t',r1,r2,r3,r4.mono fun x hp=>?_⟩
 obtain⟨rfl,hbel0,hos⟩:=hp
 have hbel:Below W.heap.size W w':=by
  have e:w'.os=W.os:=hos
  rw [←e]at hbel0
  exact hbel0
 exact⟨_,_,_,[],p0++(p1++(p2++(p3))),[],hW',trodAll_mk1 (shut_bool Tryz.underlying4 true),trodAll_cons_mk (hst0 _ hbel) (trodAll_cons_mk (hst1 _ hbel) (trodAll_cons_mk (hst2 _ hbel) (trodAll_mk1 (hst3 _ hbel)))),Y,hbel.frame _,fun h=>by cases h⟩
theorem holds_row:Rows.TollHoldsSaid:=
 OpenClaim.holds_of_wide_leaving 4 Tryz.f4 rfl rfl rfl rfl rfl rfl rfl ⟨rfl,rfl,rfl,rfl,rfl⟩ rfl rfl rfl rfl rfl kR Tryz.func4 j4
  (of_decide_eq_true kR) (by unfold Func.isWrapper;first|(rw [if_pos (by decide +kernel)];kernel_rfl)|(rw [if_neg (by decide +kernel)];exact⟨Y,Y⟩))
  (fun os started H enc _=>holds_lifted os started H enc)
theorem holds_goes:Rows.tollHoldsRow.goesBy Tryz.pinned.checked.prog=true:=by kernel_rfl
theorem holds_said:Rows.TollHoldsCardSaid:=by
 refine⟨Claim7.tied_new_at .later [.handle] true (Claim7.new_of_sixth holds_row (true,"1f0fb3d9bd39dc94342ad813ef40a8790ad3597f7e6157ac050b8b6fa7afc33b") true rfl ⟨rfl,rfl⟩ kR kR
  (fun f fn hf hfn=>?_)) kR,fun D hD=>(by cases hD),tollHolds_row_tie,(fun h=>by cases h),holds_goes.symm⟩
 obtain rfl:f=4:=(Option.some.inj ((show Tryz.prog.funcNamed "palfrey/palfreylaw12.TollHolds" = some 4 by kernel_rfl).symm.trans hf)).symm
 obtain rfl:fn=Tryz.f4:=(Option.some.inj (Tryz.func4.symm.trans hfn)).symm
 refine⟨by kernel_rfl,fun j t ht=>?_⟩
 rw [Tryz.params4]at ht
 have hw:∀t∈[26,28,40,22],Tryz.prog.wantsStandIn t=false:=fun t ht=>by
  simp only [List.mem_cons,List.not_mem_nil,or_false]at ht
  rcases ht with rfl|rfl|rfl|rfl<;>kernel_rfl
 exact hw t (by
  have:=Array.mem_of_getElem? ht
  simpa using this)
end Go.Proofs.YtclejblcnfaeaaaGreatDoor
end
#print axioms Go.Proofs.YtclejblcnfaeaaaGreatDoor.holds_said
