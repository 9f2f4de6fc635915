/- Part 24. -/
import Derived.Test.YtiolobmgibdfmaaGreatPaw
set_option linter.all false
section
namespace Go.Pal
open Go Go.Conc View
section
variable{P:Program}{mn:Who}{Stop:View→Goroutine→Prop}{v:View}{b c:Frame}{k:List Item}{cs:List Frame}{a:Act}{ops:Array Oper}{i:Nat}{rest:List Nat}{d:Nat}{ats:Array TypeId}{ty:TypeId}{pos:String}{af:Array Edge}{gu:Option (Nat×Bool)}
theorem recOp_run{ev:Operand→Value}(w:World):(execOp ev ⟨some d,.call {callee:=.builtin .recover,args:=#[],argTypes:=ats },ty,pos,af,gu⟩).runT P w #[]=(.ok .recover w,#[]):=by
 unfold execOp
 simp [resolve,invoke,builtin,Sem.runT,Sem.bind]
theorem recOp_step{fr:Frame}{w:World}(hk:(fr.kind==CallKind.early)=false)(hr:fr.roundOf=none){ev:Operand→Value} :
  stepG.apply P true fr cs none (execOp ev ⟨some d,.call {callee:=.builtin .recover,args:=#[],argTypes:=ats },ty,pos,af,gu⟩) w =
   match tryRecover fr cs with
   | some (x,callers)=>.go {frame:=fr.finish x,callers,status:=.running,dying:=none } w
   | none=>.go {frame:=fr.finish .nilIface,callers:=cs,status:=.running,dying:=none } w:=by
 unfold stepG.apply
 simp only [if_true,recOp_run,hk,Bool.false_eq_true,if_false,hr,seen_none]
 cases h:tryRecover fr cs with
 | none=>simp [GStep.after]
 | some p=>obtain⟨x,cl⟩:=p;simp [GStep.after]
theorem run_recN(hk:b.kind = .deferred)(hr:b.roundOf=none)(ho:ops[i]?=some ⟨some d,.call {callee:=.builtin .recover,args:=#[],argTypes:=ats },ty,pos,af,gu⟩)(hw:Region.wanted ⟨some d,.call {callee:=.builtin .recover,args:=#[],argTypes:=ats },ty,pos,af,gu⟩ (yielded ops a.tmps)=true)
  (hm:c.mode = .returning)(h:Run P mn Stop v (G (b.on (a.put (some d) .nilIface) (.inRegion ops rest::k)) (c::cs))):Run P mn Stop v (G (b.on a (.inRegion ops (i::rest)::k)) (c::cs)):=by
 refine Run.ctl Z (fun w=>?_) h
 rw [A5k ho hw (.inl hr),recOp_step (by simp [Frame.on,hk]) (by simp [Frame.on,hr])]
 have:tryRecover (b.on a (.inRegion ops (i::rest)::k)) (c::cs)=none:=by
  unfold tryRecover
  simp [Frame.on,hk,hm]
 rw [this,A5z b a ops i rest k _ .nilIface ho]
 rfl
theorem run_recP{x:Value}(hk:b.kind = .deferred)(hr:b.roundOf=none)(ho:ops[i]?=some ⟨some d,.call {callee:=.builtin .recover,args:=#[],argTypes:=ats },ty,pos,af,gu⟩)(hw:Region.wanted ⟨some d,.call {callee:=.builtin .recover,args:=#[],argTypes:=ats },ty,pos,af,gu⟩ (yielded ops a.tmps)=true)
  (hm:c.mode = .panicking [⟨x,false,false⟩])(h:Run P mn Stop v (G (b.on (a.put (some d) x) (.inRegion ops rest::k)) ({c with mode:=.panicking [⟨x,true,false⟩] }::cs))):Run P mn Stop v (G (b.on a (.inRegion ops (i::rest)::k)) (c::cs)):=by
 refine Run.ctl Z (fun w=>?_) h
 rw [A5k ho hw (.inl hr),recOp_step (by simp [Frame.on,hk]) (by simp [Frame.on,hr])]
 have:tryRecover (b.on a (.inRegion ops (i::rest)::k)) (c::cs)=some (x,{c with mode:=.panicking [⟨x,true,false⟩] }::cs):=by
  unfold tryRecover
  simp [Frame.on,hk,hm]
 rw [this,←A5z b a ops i rest k _ x ho]
 rfl
theorem run_leaveD{fr:Frame}{fn:Func}(hm:fr.mode = .returning)(hd:fr.defers=[])(hk:fr.kind = .deferred)(hf:P.funcs[fr.fn]?=some fn)(hres:fn.results=#[])(hc:c.mode = .returning)(h:Run P mn Stop v (G c cs)):Run P mn Stop v (G fr (c::cs)):=by
 refine Run.ctl Z (fun w=>?_) h
 simp [G,stepG,unwind,hm,hd,hf,results,hres,doReturn,hk,hc,GStep.after,seen_none,Sem.runT,Sem.bind]
theorem run_leaveP{fr:Frame}{fn:Func}{x:Value}(hm:fr.mode = .returning)(hd:fr.defers=[])(hk:fr.kind = .deferred)(hf:P.funcs[fr.fn]?=some fn)(hres:fn.results=#[])(hc:c.mode = .panicking [⟨x,true,false⟩])(h:Run P mn Stop v (G {c with mode:=.returning } cs)):Run P mn Stop v (G fr (c::cs)):=by
 refine Run.ctl Z (fun w=>?_) h
 simp [G,stepG,unwind,hm,hd,hf,results,hres,doReturn,hk,hc,GStep.after,seen_none,Sem.runT,Sem.bind]
theorem run_end{fn:Func}(hr:b.roundOf=none)(hds:a.defers=[])(hk:b.kind = .deferred)(hf:P.funcs[b.fn]?=some fn)(hres:fn.results=#[])(hc:c.mode = .returning∨∃x,c.mode = .panicking [⟨x,true,false⟩])(h:Run P mn Stop v (G {c with mode:=.returning } cs)):Run P mn Stop v (G (b.on a []) (c::cs)):=by
 refine Run.ctl Z (g':=G {b.on a []with mode:=.returning } (c::cs)) (fun w=>by simp [G,stepG,stepG.exec,Frame.on,hr]) ?_
 rcases hc with hc|⟨x,hc⟩
 ·refine run_leaveD Z hds hk hf hres hc ?_
  have:({c with mode:=.returning }:Frame)=c:=by cases c;simp only at hc;subst hc;rfl
  rw [this]at h;exact h
 ·exact run_leaveP Z hds hk hf hres hc h
end
section
variable{P:Program}{mn:Who}{Stop:View→Goroutine→Prop}{v:View}{b:Frame}{cs:List Frame}{a:Act}{n:Nat}
theorem run_tail{R:St→View→Prop}{ops:Array Oper}{l:List Nat}{c:Code}{σ:St}{u:View}(hk:b.kind≠.early)(hr:b.roundOf=none)(h:XO P mn none n ops l (SeqQ P mn none n c (fun e σ u=>e = .normal∧R σ u)) σ u)(hf:Fits n σ a)(hb:Bok σ.β u)(hl:(u.union (A0e σ.β)).Le v)
  (hq:∀σ' u' a',R σ' u'→Fits n σ' a'→Bok σ'.β u'→Run P mn Stop (u'.union (A0e σ'.β)) (G (b.on a' []) cs)):Run P mn Stop v (G (b.on a (.inRegion ops l::[.code c])) cs):=by
 refine((h a hf hb) Stop b [.code c] cs hk hr (fun e a' v' hP=>?_)).weaken hl
 obtain⟨σ',u',hQ,hf',hb',hl'⟩:=hP
 cases e with
 | normal=>
  simp only [SeqQ]at hQ
  refine((show XC P mn none n c (fun e σ u=>e = .normal∧R σ u) σ' u' from hQ) a' hf' hb' Stop b [] cs hk hr (fun e a2 v2 hP2=>?_)).weaken hl'
  obtain⟨σ2,u2,⟨rfl,hR⟩,hf2,hb2,hl2⟩:=hP2
  exact(hq _ _ _ hR hf2 hb2).weaken hl2
 | _=>simp only [SeqQ]at hQ;exact absurd hQ.1 sM
end
section
variable{P:Program}{mn:Who}(T:Tab P){rd:Option Nat}{n:Nat}{Q:Exit→St→View→Prop}{ds:List Deferred}{ρ:Regs}{β:A0j}{v:View}{K:St→View→Prop}
 {ops:Array Oper}{i:Nat}{d:Nat}{ty:TypeId}{pos:String}{af:Array Edge}{gu:Option (Nat×Bool)}
theorem XR_at{l:List Oper}{todo:List Nat}{σ:St}(hd:ops.toList.drop i=l)(ht:List.range' i l.length=todo)(h:XR P mn rd n ops i l Q σ v):XO P mn rd n ops todo Q σ v:=ht ▸ h hd
theorem A_neqNil{t t2:TypeId}{y:Operand}{x:Value}{ms:Array (String×TypeId)}{r:Bool}(ho:ops[i]?=some ⟨some d,.binOp .neq t y (.const .nilIface) t2,ty,pos,af,gu⟩)(hw:A0x ops gu ρ=some true)(hn:Nat.blt d n=true)(hy:ρ.val y=some x)(ht:T.und t=some (.interface ms))
  (hx:(r=false∧x = .nilIface)∨(r=true∧∃tx vx,x = .iface tx vx))(h:K ⟨ds,(d,.bool r)::ρ,β⟩ v):XOp P mn rd n ops i Q K ⟨ds,ρ,β⟩ v:=by
 refine A2x ho (A0p hw) (.inr Z) hn fun ev hev hbk=>?_
 have hc:ev (.const .nilIface) = .nilIface:=hev _ _ Z
 rcases hx with ⟨rfl,rfl⟩|⟨rfl,tx,vx,rfl⟩
 ·simp only [execOp,A0d,hev _ _ hy,hc,eqGuard,binOp,Op.equal]
  simp only [Bool.or_true,if_true,Bool.not_true,Bool.false_eq_true,if_false,A0m,A0d]
  unfold Op.equalIn
  simp only [Op.maxDepth,A0d,A1r T ht,A0m,Bool.not_true]
  exact⟨β,v,⟨hbk,Le.refl _⟩,h⟩
 ·simp only [execOp,A0d,hev _ _ hy,hc,eqGuard,binOp,Op.equal]
  simp only [Bool.not_true,Bool.false_eq_true,if_false,A0m,A0d]
  unfold Op.equalIn
  simp only [Op.maxDepth,A0d,A1r T ht,A0m,Bool.not_false]
  exact⟨β,v,⟨hbk,Le.refl _⟩,h⟩
end
section
variable{P:Program}(T:Tab P){fn:Func}{kc:FuncId}{tR:TypeId}{R:End→A0j→Prop}{v u:View}{ds:List Deferred}{ρ:Regs}{β β':A0j}
theorem A6e{p:Addr}{xs:List Value}(hds:ds=[dcall kc #[.pointer (some p)]])(hr:ResL T ρ β fn.results.toList xs)(hb:Back v β' u β)(hR:R (.ret (A5l xs)) β'):FnD T fn kc tR R v .ret ⟨ds,ρ,β⟩ u:=⟨p,hds,xs,β',hr,hR,hb⟩
theorem A2n{b off:Nat}{k:IntKind}{e:Int}{c:Array Value}{t:TypeId}{β2:A0j}{xs:List Value}(hds:ds=[dcall kc #[.pointer (some ⟨b,off,none⟩)]])(hin:InB b c t β)(hoff:off<c.size)(hset:SetB b (c.setIfInBounds off (.int k e)) β β2)
  (hr:ResL T ρ β2 fn.results.toList xs)(hb:Back v β' u β2)(hR:R (.ret (A5l xs)) β'):FnD T fn kc tR R v (.panic [⟨.iface tR (.int k e),false,false⟩]) ⟨ds,ρ,β⟩ u:=⟨b,off,k,e,c,t,β2,xs,β',hds,Z,hin,hoff,hset,hr,hR,hb⟩
end
end Go.Pal
end
section
namespace Go.Proofs.YtiolobmgibdfmaaGreat
open Go Go.Pal Go.Conc View
open Go.Proofs.Tryz
set_option maxHeartbeats 4000000
section
variable{mn:Who}
theorem A4x:Caught prog mn 78 141 where
  fn:=by
    obtain⟨fn,c,h1,h2,h3⟩:=bod78
    exact⟨fn,h1,h3,by rw [h2];simp⟩
  ok:=by
    intro Stop v c fs p hm hrun
    refine A3b (R:=Run prog mn Stop v) (ys:=[_]) func78 Z nB fun bf hbn hbr hbf=>?_
    have hbk:bf.kind≠.early:=by rw [hbn];simp
    refine F_seq ?_
    refine A2b (l:=[0,1,2,3,4,5,6]) Z ?_
    intro a hf
    refine run_recN hbn hbr Z (A0q (o:=⟨some 5,.call {callee:=.builtin .recover,args:=#[],argTypes:=#[] },_,_,_,none⟩) hf Z) hm ?_
    refine run_tail (R:=fun σ u=>σ.ds=[]∧u=v∧σ.β=[]) (σ:=⟨[],(5,.nilIface)::A2z 0 [.pointer (some p)],[]⟩) (u:=v) hbk hbr ?_ (A1h (d:=some 5) hf Z) (B3u v) (by rw [A2r];exact Le.refl _) (fun σ' u' a' hR hf' hb'=>?_)
    · refine XR_at (i:=1) (l:=[_,_,_,_,_,_]) Z Z ?_
      repeat (first|refine st ?_|refine qb fun bx=>?_)
      exact⟨Z,Z,Z,Z⟩
    · obtain⟨h1,rfl,h2⟩:=hR
      rw [h2,A2r]
      refine run_end (fn:=f78) hbr (hf'.defers.trans h1) hbn (by rw [hbf];exact func78) Z (.inl hm) ?_
      have:({c with mode:=.returning }:Frame)=c:=by cases c;simp only at hm;subst hm;rfl
      rw [this];exact hrun
  pan:=by
    intro Stop v c fs b off cc t k e hm hv hoff hrun
    refine A3b (R:=Run prog mn Stop v) (ys:=[_]) func78 Z nB fun bf hbn hbr hbf=>?_
    have hbk:bf.kind≠.early:=by rw [hbn];simp
    refine F_seq ?_
    refine A2b (l:=[0,1,2,3,4,5,6]) Z ?_
    intro a hf
    refine run_recP hbn hbr Z (A0q (o:=⟨some 5,.call {callee:=.builtin .recover,args:=#[],argTypes:=#[] },_,_,_,none⟩) hf Z) hm ?_
    obtain⟨u,hu⟩:∃u:View,u=fun j=>if j=b then none else v j:=⟨_,rfl⟩
    have hub:u b=none:=by rw [hu];simp
    have hbok:∀c':Array Value,Bok [(b,c',t)] u:=fun c'=>⟨by simp,fun j=>by
      by_cases hj:j=b
      · subst hj;exact .inl hub
      · right;simp [A0e];intro h;exact absurd h hj⟩
    have hset:∀c':Array Value,u.union (A0e [(b,c',t)])=v.set b true (.cells c' t (0,0)):=fun c'=>by
      funext j
      rw [hu]
      unfold View.union View.set
      by_cases hj:j=b
      · subst hj;simp [A0e]
      · simp only [if_neg hj]
        cases v j<;>simp [A0e]
        intro h;exact absurd h hj
    have hvs:v.set b true (.cells cc t (0,0))=v:=by
      funext j
      unfold View.set
      split
      · rename_i h;rw [h,hv]
      · rfl
    refine run_tail (R:=fun σ u'=>σ.ds=[]∧u'=u∧σ.β=[(b,cc.setIfInBounds off (.int k e),t)]) (σ:=⟨[],(5,.iface 141 (.int k e))::A2z 0 [.pointer (some ⟨b,off,none⟩)],[(b,cc,t)]⟩) (u:=u) hbk hbr ?_ (by have hp:=A1h (d:=some 5) (x:=.iface 141 (.int k e)) hf rfl;exact⟨hp.size,hp.defers,hp.get⟩) (hbok cc) (by show(u.union (A0e [(b,cc,t)])).Le v;rw [hset,hvs];exact Le.refl _) (fun σ' u' a' hR hf' hb'=>?_)
    · refine XR_at (i:=1) (l:=[_,_,_,_,_,_]) Z Z ?_
      repeat (first|refine st ?_|refine qb fun bx=>?_)
      refine Q_op fun ho=>A1j tab (c:=cc) (x:=.int k e) ho Z Z Z Z Z Z .head (Nat.ble_eq_true_of_le oM) .head ?_
      repeat (first|refine st ?_|refine qb fun bx=>?_)
      exact⟨Z,Z,Z,Z⟩
    · obtain⟨h1,rfl,h2⟩:=hR
      rw [h2,hset]
      exact run_end (fn:=f78) hbr (hf'.defers.trans h1) hbn (by rw [hbf];exact func78) Z (.inr ⟨_,Z⟩) hrun
end
end Go.Proofs.YtiolobmgibdfmaaGreat
end
section
namespace Go.Proofs.YtiolobmgibdfmaaGreat
open Go Go.Pal Go.Pal.Vo Go.Conc View
open Go.Proofs.Tryz
set_option maxHeartbeats 4000000
set_option maxRecDepth 20000
section
variable{mn:Who}{rd:Option Nat}{n:Nat}{Q:Exit→St→View→Prop}{ds:List Deferred}{ρ:Regs}{β:A0j}{v:View}{K:St→View→Prop}
 {ops:Array Oper}{i:Nat}{d:Nat}{ty:TypeId}{pos:String}{af:Array Edge}{gu:Option (Nat×Bool)}
abbrev panC(e:Int):List PanicEntry:=[⟨.iface 141 (.int .i64 e),false,false⟩]
theorem A3d{f:Operand}{args:Array Operand}{ats:Array TypeId}{b:Bool}{e:Int}(ho:ops[i]?=some ⟨some d,.call {callee:=.value f,args:=args,argTypes:=ats },ty,pos,af,gu⟩)(hw:A0x ops gu ρ=some true)(hn:Nat.blt d n=true)
  (hf:ρ.val f=some (.func (.func 92) #[] #[]))(hxs:A3q ρ.val args.toList=some [.bool b,.int .i64 e])(h2:b=false→Q (.panic (panC e)) ⟨ds,ρ,β⟩ v)(h1:b=true→K ⟨ds,(d,.tuple #[])::ρ,β⟩ v):XOp prog mn rd n ops i Q K ⟨ds,ρ,β⟩ v:=by
 refine A7s [] β ho hw hn hf hxs bod92 (fun _=>rfl) (B3d (b:=b) (e:=e)) (fun x β' hR=>?_) (fun ch β' hR=>?_)
 ·obtain⟨rfl,hR⟩:=hR
  cases b with
  | true=>
   injection hR with hR
   subst hR
   exact h1 Z
  | false=>cases hR
 ·obtain⟨rfl,hR⟩:=hR
  cases b with
  | true=>cases hR
  | false=>
   injection hR with hR
   subst hR
   exact h2 Z
theorem A_needR{f:Operand}{args:Array Operand}{ats:Array TypeId}{kf:FuncId}{xs:List Value}{b:Bool}{e:Int}(ho:ops[i]?=some ⟨some d,.call {callee:=.value f,args:=args,argTypes:=ats },ty,pos,af,gu⟩)(hk:A0n prog kf)(hw:A0x ops gu ρ=some true)(hn:Nat.blt d n=true)
  (hf:ρ.val f=some (.func (.func kf) #[] #[]))(hxs:A3q ρ.val args.toList=some xs)(hc:CallsB prog mn kf xs.toArray (NeedR b e) [] (v.union (A0e β)))(h2:b=false→Q (.panic (panC e)) ⟨ds,ρ,β⟩ v)(h1:b=true→K ⟨ds,(d,.tuple #[])::ρ,β⟩ v):XOp prog mn rd n ops i Q K ⟨ds,ρ,β⟩ v:=by
 have hc':CallsB prog mn kf (#[]++xs.toArray++#[]) (NeedR b e) [] (v.union (A0e β)):=by
  have:(#[]++xs.toArray++#[]:Array Value)=xs.toArray:=by simp
  rw [this];exact hc
 refine A7s [] β ho hw hn hf hxs hk (fun _=>rfl) hc' (fun x β' hR=>?_) (fun ch β' hR=>?_)
 ·obtain⟨rfl,hR⟩:=hR
  cases b with
  | true=>
   injection hR with hR
   subst hR
   exact h1 Z
  | false=>cases hR
 ·obtain⟨rfl,hR⟩:=hR
  cases b with
  | true=>cases hR
  | false=>
   injection hR with hR
   subst hR
   exact h2 Z
end
section
variable{mn:Who}{v:View}{P F:Nat}{a:Option Addr}{n cap:Nat}
def A2k(P F:Nat)(x:Wd):Int:=
 if ¬(0≤x.who∧x.who≤(P:Int)-1)then 3
 else if ¬(0≤x.kind∧x.kind≤6)then 8
 else if x.kind≤1 then(if ¬(0≤x.a∧x.a≤(F:Int)-1)then 3 else if x.b=0 then 0 else 1)
 else if x.kind≤3 then(if ¬(0≤x.a∧x.a≤(P:Int)-1)then 3 else if x.b=0 then 0 else 1)
 else if x.kind=4 then(if ¬((0≤x.a∧x.a≤(F:Int)-1)∧0≤x.b∧x.b≤(F:Int)-1)then 3 else 0)
 else if x.kind=5 then(if ¬((0≤x.a∧x.a≤(P:Int)-1)∧0≤x.b∧x.b≤(P:Int)-1)then 3 else if x.a<x.b then 0 else 5)
 else(if ¬(0≤x.a∧x.a≤(P:Int))then 1 else if x.b=0 then 0 else 1)
def endE(k:Int):Pal.End:=if k=0 then .ret (.tuple #[])else panV k
theorem A3a{k j:Int}(h:k=j)(hj:j≠0):Pal.End.pan (panC j)=endE k:=by subst h;unfold endE;rw [if_neg hj]
theorem A7p{k:Int}(h:k=0):Pal.End.ret (.tuple #[])=endE k:=by subst h;rfl
theorem says_split(x:Wd):(B2x x = .nilIface∧∀k:Nat,k<7→x.kind≠k)∨∃k:Nat,k<7∧x.kind=k∧B2x x=sayN x k:=by
 by_cases h:∃k:Nat,k<7∧x.kind=k
 ·obtain⟨k,hk,hx⟩:=h
  exact .inr ⟨k,hk,hx,A7w hk hx⟩
 ·have h':∀k:Nat,k<7→x.kind≠k:=fun k hk hx=>h ⟨k,hk,hx⟩
  exact .inl ⟨says_no h',h'⟩
theorem B3y{k:Int}(h:k≠4)(h':k≠5):Ret1 prog mn 146 [.int .i64 k] (.int .i64 1) v:=by
 have:=B3x (mn:=mn) (v:=v) (k:=k)
 rwa [if_neg oM]at this
theorem args_x2{k:Int}(h:k=4∨k=5):Ret1 prog mn 146 [.int .i64 k] (.int .i64 2) v:=by
 have:=B3x (mn:=mn) (v:=v) (k:=k)
 rwa [if_pos h]at this
theorem checkWord_x{x:Wd}(hP:P≤8)(hF:F≤8):CallsB prog mn 104 #[boV P F a n cap,wdV x] (fun e β'=>β'=[]∧e=endE (A2k P F x)) [] v:=by
 refine A0f tab func104 Z nB (args:=[_,_]) ?_
 repeat (first|refine st ?_|refine qb fun bx=>?_)
 refine Q_op fun ho=>A0s ho A6b Z Z Z Z Z A3k ?_
 clear ho
 refine Q_op fun ho=>A3d ho Z Z Z Z (fun h=>?_) (fun h=>?_)
 ·(refine pn ?_;refine A1k tab [] (Back.here fun p=>Nat.zero_le _) ⟨Z,?_⟩)
  have h:=of_decide_eq_false h
  exact A3a (by unfold A2k;rw [if_pos h]) dM
 have hby:=of_decide_eq_true h
 clear h ho
 repeat (first|refine st ?_|refine qb fun bx=>?_)
 refine Q_op fun ho=>A0s ho bod105 Z Z Z Z Z (B3e (x:=x)) ?_
 clear ho
 repeat (first|refine st ?_|refine qb fun bx=>?_)
 rcases says_split x with ⟨hs,hno⟩|⟨k,hk,hx,hs⟩
 ·rw [hs]
  refine Q_op fun ho=>A_neqNil tab (r:=false) ho Z Z Z Z (.inl ⟨Z,Z⟩) ?_
  clear ho
  refine Q_op fun ho=>A3d ho Z Z Z Z (fun _=>?_) (fun h=>by cases h)
  (refine pn ?_;refine A1k tab [] (Back.here fun p=>Nat.zero_le _) ⟨Z,?_⟩)
  have h0:=hno 0 dM
  have h1:=hno 1 dM
  have h2:=hno 2 dM
  have h3:=hno 3 dM
  have h4:=hno 4 dM
  have h5:=hno 5 dM
  have h6:=hno 6 dM
  exact A3a (by unfold A2k;(repeat' split)<;>omega) dM
 rw [hs]
 refine Q_op fun ho=>A_neqNil tab (r:=true) ho Z Z Z Z (.inr ⟨Z,by unfold sayN;split<;>exact⟨_,_,Z⟩⟩) ?_
 clear ho
 refine Q_op fun ho=>A3d ho Z Z Z Z (fun h=>by cases h) (fun _=>?_)
 clear ho
 rcases (by omega:k=0∨k=1∨k=2∨k=3∨k=4∨k=5∨k=6)with rfl|rfl|rfl|rfl|rfl|rfl|rfl
 ·repeat (first|refine st ?_|refine qb fun bx=>?_)
  refine Q_op fun ho=>A0s ho A6b Z Z Z Z Z A3k ?_
  clear ho
  refine Q_op fun ho=>A3d ho Z Z Z Z (fun h=>?_) (fun h=>?_)
  ·have h:=of_decide_eq_false h
   (refine pn ?_;refine A1k tab [] (Back.here fun p=>Nat.zero_le _) ⟨Z,?_⟩)
   exact A3a (by unfold A2k;(repeat' split)<;>omega) dM
  have ha:=of_decide_eq_true h
  clear h ho
  repeat (first|refine st ?_|refine qb fun bx=>?_)
  refine Q_op fun ho=>A0s ho B3v Z Z Z Z Z (B3y (k:=x.kind) oM oM) ?_
  clear ho
  repeat (first|refine st ?_|refine qb fun bx=>?_)
  refine Q_op fun ho=>A3d ho Z Z Z Z (fun h=>?_) (fun h=>?_)
  ·have h:x.b≠0:=by simpa using h
   (refine pn ?_;refine A1k tab [] (Back.here fun p=>Nat.zero_le _) ⟨Z,?_⟩)
   exact A3a (by unfold A2k;(repeat' split)<;>omega) dM
  have hb:x.b=0:=by simpa using h
  clear h ho
  repeat (first|refine st ?_|refine qb fun bx=>?_)
  exact A1t tab [] .nil (Back.here fun p=>Nat.zero_le _) ⟨Z,A7p (by unfold A2k;(repeat' split)<;>omega)⟩
 ·repeat (first|refine st ?_|refine qb fun bx=>?_)
  refine Q_op fun ho=>A0s ho A6b Z Z Z Z Z A3k ?_
  clear ho
  refine Q_op fun ho=>A3d ho Z Z Z Z (fun h=>?_) (fun h=>?_)
  ·have h:=of_decide_eq_false h
   (refine pn ?_;refine A1k tab [] (Back.here fun p=>Nat.zero_le _) ⟨Z,?_⟩)
   exact A3a (by unfold A2k;(repeat' split)<;>omega) dM
  have ha:=of_decide_eq_true h
  clear h ho
  repeat (first|refine st ?_|refine qb fun bx=>?_)
  refine Q_op fun ho=>A0s ho B3v Z Z Z Z Z (B3y (k:=x.kind) oM oM) ?_
  clear ho
  repeat (first|refine st ?_|refine qb fun bx=>?_)
  refine Q_op fun ho=>A3d ho Z Z Z Z (fun h=>?_) (fun h=>?_)
  ·have h:x.b≠0:=by simpa using h
   (refine pn ?_;refine A1k tab [] (Back.here fun p=>Nat.zero_le _) ⟨Z,?_⟩)
   exact A3a (by unfold A2k;(repeat' split)<;>omega) dM
  have hb:x.b=0:=by simpa using h
  clear h ho
  repeat (first|refine st ?_|refine qb fun bx=>?_)
  exact A1t tab [] .nil (Back.here fun p=>Nat.zero_le _) ⟨Z,A7p (by unfold A2k;(repeat' split)<;>omega)⟩
 ·repeat (first|refine st ?_|refine qb fun bx=>?_)
  refine Q_op fun ho=>A0s ho A6b Z Z Z Z Z A3k ?_
  clear ho
  refine Q_op fun ho=>A3d ho Z Z Z Z (fun h=>?_) (fun h=>?_)
  ·have h:=of_decide_eq_false h
   (refine pn ?_;refine A1k tab [] (Back.here fun p=>Nat.zero_le _) ⟨Z,?_⟩)
   exact A3a (by unfold A2k;(repeat' split)<;>omega) dM
  have ha:=of_decide_eq_true h
  clear h ho
  repeat (first|refine st ?_|refine qb fun bx=>?_)
  refine Q_op fun ho=>A0s ho B3v Z Z Z Z Z (B3y (k:=x.kind) oM oM) ?_
  clear ho
  repeat (first|refine st ?_|refine qb fun bx=>?_)
  refine Q_op fun ho=>A3d ho Z Z Z Z (fun h=>?_) (fun h=>?_)
  ·have h:x.b≠0:=by simpa using h
   (refine pn ?_;refine A1k tab [] (Back.here fun p=>Nat.zero_le _) ⟨Z,?_⟩)
   exact A3a (by unfold A2k;(repeat' split)<;>omega) dM
  have hb:x.b=0:=by simpa using h
  clear h ho
  repeat (first|refine st ?_|refine qb fun bx=>?_)
  exact A1t tab [] .nil (Back.here fun p=>Nat.zero_le _) ⟨Z,A7p (by unfold A2k;(repeat' split)<;>omega)⟩
 ·repeat (first|refine st ?_|refine qb fun bx=>?_)
  refine Q_op fun ho=>A0s ho A6b Z Z Z Z Z A3k ?_
  clear ho
  refine Q_op fun ho=>A3d ho Z Z Z Z (fun h=>?_) (fun h=>?_)
  ·have h:=of_decide_eq_false h
   (refine pn ?_;refine A1k tab [] (Back.here fun p=>Nat.zero_le _) ⟨Z,?_⟩)
   exact A3a (by unfold A2k;(repeat' split)<;>omega) dM
  have ha:=of_decide_eq_true h
  clear h ho
  repeat (first|refine st ?_|refine qb fun bx=>?_)
  refine Q_op fun ho=>A0s ho B3v Z Z Z Z Z (B3y (k:=x.kind) oM oM) ?_
  clear ho
  repeat (first|refine st ?_|refine qb fun bx=>?_)
  refine Q_op fun ho=>A3d ho Z Z Z Z (fun h=>?_) (fun h=>?_)
  ·have h:x.b≠0:=by simpa using h
   (refine pn ?_;refine A1k tab [] (Back.here fun p=>Nat.zero_le _) ⟨Z,?_⟩)
   exact A3a (by unfold A2k;(repeat' split)<;>omega) dM
  have hb:x.b=0:=by simpa using h
  clear h ho
  repeat (first|refine st ?_|refine qb fun bx=>?_)
  exact A1t tab [] .nil (Back.here fun p=>Nat.zero_le _) ⟨Z,A7p (by unfold A2k;(repeat' split)<;>omega)⟩
 ·repeat (first|refine st ?_|refine qb fun bx=>?_)
  refine Q_op fun ho=>A0s ho A6b Z Z Z Z Z A3k ?_
  clear ho
  by_cases ha:0≤x.a∧x.a≤(F:Int)-1
  ·rw [decide_eq_true ha]
   repeat (first|refine st ?_|refine qb fun bx=>?_)
   refine Q_op fun ho=>A0s ho A6b Z Z Z Z Z A3k ?_
   clear ho
   repeat (first|refine st ?_|refine qb fun bx=>?_)
   refine Q_op fun ho=>A3d ho Z Z Z Z (fun h=>?_) (fun h=>?_)
   ·have h:=of_decide_eq_false h
    (refine pn ?_;refine A1k tab [] (Back.here fun p=>Nat.zero_le _) ⟨Z,?_⟩)
    exact A3a (by unfold A2k;(repeat' split)<;>omega) dM
   have hb:=of_decide_eq_true h
   clear h ho
   repeat (first|refine st ?_|refine qb fun bx=>?_)
   refine Q_op fun ho=>A0s ho B3v Z Z Z Z Z (args_x2 (k:=x.kind) oM) ?_
   clear ho
   repeat (first|refine st ?_|refine qb fun bx=>?_)
   refine Q_op fun ho=>A3d ho Z Z Z Z (fun h=>by cases h) (fun h=>?_)
   clear h ho
   repeat (first|refine st ?_|refine qb fun bx=>?_)
   exact A1t tab [] .nil (Back.here fun p=>Nat.zero_le _) ⟨Z,A7p (by unfold A2k;(repeat' split)<;>omega)⟩
  ·rw [decide_eq_false ha]
   repeat (first|refine st ?_|refine qb fun bx=>?_)
   refine Q_op fun ho=>A3d ho Z Z Z Z (fun h=>?_) (fun h=>by cases h)
   (refine pn ?_;refine A1k tab [] (Back.here fun p=>Nat.zero_le _) ⟨Z,?_⟩)
   exact A3a (by unfold A2k;(repeat' split)<;>omega) dM
 ·repeat (first|refine st ?_|refine qb fun bx=>?_)
  refine Q_op fun ho=>A0s ho A6b Z Z Z Z Z A3k ?_
  clear ho
  by_cases ha:0≤x.a∧x.a≤(P:Int)-1
  ·rw [decide_eq_true ha]
   repeat (first|refine st ?_|refine qb fun bx=>?_)
   refine Q_op fun ho=>A0s ho A6b Z Z Z Z Z A3k ?_
   clear ho
   repeat (first|refine st ?_|refine qb fun bx=>?_)
   refine Q_op fun ho=>A3d ho Z Z Z Z (fun h=>?_) (fun h=>?_)
   ·have h:=of_decide_eq_false h
    (refine pn ?_;refine A1k tab [] (Back.here fun p=>Nat.zero_le _) ⟨Z,?_⟩)
    exact A3a (by unfold A2k;(repeat' split)<;>omega) dM
   have hb:=of_decide_eq_true h
   clear h ho
   repeat (first|refine st ?_|refine qb fun bx=>?_)
   refine Q_op fun ho=>A3d ho Z Z Z Z (fun h=>?_) (fun h=>?_)
   ·have h:=of_decide_eq_false h
    (refine pn ?_;refine A1k tab [] (Back.here fun p=>Nat.zero_le _) ⟨Z,?_⟩)
    exact A3a (by unfold A2k;(repeat' split)<;>omega) dM
   have hab:=of_decide_eq_true h
   clear h ho
   repeat (first|refine st ?_|refine qb fun bx=>?_)
   refine Q_op fun ho=>A0s ho B3v Z Z Z Z Z (args_x2 (k:=x.kind) oM) ?_
   clear ho
   repeat (first|refine st ?_|refine qb fun bx=>?_)
   refine Q_op fun ho=>A3d ho Z Z Z Z (fun h=>by cases h) (fun h=>?_)
   clear h ho
   repeat (first|refine st ?_|refine qb fun bx=>?_)
   exact A1t tab [] .nil (Back.here fun p=>Nat.zero_le _) ⟨Z,A7p (by unfold A2k;(repeat' split)<;>omega)⟩
  ·rw [decide_eq_false ha]
   repeat (first|refine st ?_|refine qb fun bx=>?_)
   refine Q_op fun ho=>A3d ho Z Z Z Z (fun h=>?_) (fun h=>by cases h)
   (refine pn ?_;refine A1k tab [] (Back.here fun p=>Nat.zero_le _) ⟨Z,?_⟩)
   exact A3a (by unfold A2k;(repeat' split)<;>omega) dM
 ·repeat (first|refine st ?_|refine qb fun bx=>?_)
  refine Q_op fun ho=>A0s ho A6b Z Z Z Z Z A3k ?_
  clear ho
  refine Q_op fun ho=>A3d ho Z Z Z Z (fun h=>?_) (fun h=>?_)
  ·have h:=of_decide_eq_false h
   (refine pn ?_;refine A1k tab [] (Back.here fun p=>Nat.zero_le _) ⟨Z,?_⟩)
   exact A3a (by unfold A2k;(repeat' split)<;>omega) dM
  have ha:=of_decide_eq_true h
  clear h ho
  repeat (first|refine st ?_|refine qb fun bx=>?_)
  refine Q_op fun ho=>A0s ho B3v Z Z Z Z Z (B3y (k:=x.kind) oM oM) ?_
  clear ho
  repeat (first|refine st ?_|refine qb fun bx=>?_)
  refine Q_op fun ho=>A3d ho Z Z Z Z (fun h=>?_) (fun h=>?_)
  ·have h:x.b≠0:=by simpa using h
   (refine pn ?_;refine A1k tab [] (Back.here fun p=>Nat.zero_le _) ⟨Z,?_⟩)
   exact A3a (by unfold A2k;(repeat' split)<;>omega) dM
  have hb:x.b=0:=by simpa using h
  clear h ho
  repeat (first|refine st ?_|refine qb fun bx=>?_)
  exact A1t tab [] .nil (Back.here fun p=>Nat.zero_le _) ⟨Z,A7p (by unfold A2k;(repeat' split)<;>omega)⟩
end
section
variable{mn:Who}{rd:Option Nat}{n:Nat}{Q:Exit→St→View→Prop}{ds:List Deferred}{ρ:Regs}{β:A0j}{v:View}{K:St→View→Prop}
 {ops:Array Oper}{i:Nat}{d:Nat}{ty:TypeId}{pos:String}{af:Array Edge}{gu:Option (Nat×Bool)}
def RetE(k:Int)(x:Value):Pal.End→A0j→Prop:=fun e β'=>β'=[]∧e=if k=0 then .ret x else panV k
theorem A6g{f:Operand}{args:Array Operand}{ats:Array TypeId}{kf:FuncId}{xs:List Value}{k:Int}{x:Value}(ho:ops[i]?=some ⟨some d,.call {callee:=.value f,args:=args,argTypes:=ats },ty,pos,af,gu⟩)(hk:A0n prog kf)(hw:A0x ops gu ρ=some true)(hn:Nat.blt d n=true)
  (hf:ρ.val f=some (.func (.func kf) #[] #[]))(hxs:A3q ρ.val args.toList=some xs)(hc:CallsB prog mn kf xs.toArray (RetE k x) [] (v.union (A0e β)))(h2:k≠0→Q (.panic (panC k)) ⟨ds,ρ,β⟩ v)(h1:k=0→K ⟨ds,(d,x)::ρ,β⟩ v):XOp prog mn rd n ops i Q K ⟨ds,ρ,β⟩ v:=by
 have hc':CallsB prog mn kf (#[]++xs.toArray++#[]) (RetE k x) [] (v.union (A0e β)):=by
  have:(#[]++xs.toArray++#[]:Array Value)=xs.toArray:=by simp
  rw [this];exact hc
 refine A7s [] β ho hw hn hf hxs hk (fun _=>rfl) hc' (fun y β' hR=>?_) (fun ch β' hR=>?_)
 ·obtain⟨rfl,hR⟩:=hR
  by_cases h0:k=0
  ·rw [if_pos h0]at hR
   injection hR with hR
   subst hR
   exact h1 h0
  ·rw [if_neg h0]at hR;cases hR
 ·obtain⟨rfl,hR⟩:=hR
  by_cases h0:k=0
  ·rw [if_pos h0]at hR;cases hR
  ·rw [if_neg h0]at hR
   injection hR with hR
   subst hR
   exact h2 h0
theorem B0w{k j:Int}{x:Value}(h:k=j)(hj:j≠0):RetE k x (.pan (panC j)) []:=⟨Z,by subst h;rw [if_neg hj]⟩
theorem RetE_ret{k:Int}{x:Value}(h:k=0):RetE k x (.ret x) []:=⟨Z,by rw [if_pos h]⟩
end
section
variable{mn:Who}{v:View}{wa:Option Addr}{wc:Nat}
theorem B3t{P F:Nat}{a:Option Addr}{n cap:Nat}{x:Wd}(hP:P≤8)(hF:F≤8):CallsB prog mn 104 #[boV P F a n cap,wdV x] (RetE (A2k P F x) (.tuple #[])) [] v:=checkWord_x hP hF
def A8y(P F:Nat):List Wd→Int
 | []=>0
 | x::l=>if A2k P F x=0 then A8y P F l else A2k P F x
def A2h(P F:Int)(ws:List Wd):Int:=
 if ¬(1≤P∧P≤4)then 1 else if ¬(0≤F∧F≤3)then 1 else if ¬ws.length≤8 then 6 else A8y P.toNat F.toNat ws
theorem check_x{P F:Int}{ws:List Wd}(hws:WdsAt v wa ws)(hwl:ws.length<2^30):CallsB prog mn 126 #[boV P F wa ws.length wc] (RetE (A2h P F ws) (.tuple #[])) [] v:=by
 refine A0f tab func126 Z nB (args:=[_]) ?_
 repeat (first|refine st ?_|refine qb fun bx=>?_)
 refine Q_op fun ho=>A0s ho A6b Z Z Z Z Z A3k ?_
 clear ho
 refine Q_op fun ho=>A3d ho Z Z Z Z (fun h=>?_) (fun h=>?_)
 ·have h:=of_decide_eq_false h
  refine pn ?_
  exact A1k tab [] (Back.here fun p=>Nat.zero_le _) (B0w (by unfold A2h;rw [if_pos h]) dM)
 have hp:=of_decide_eq_true h
 clear h ho
 repeat (first|refine st ?_|refine qb fun bx=>?_)
 refine Q_op fun ho=>A0s ho A6b Z Z Z Z Z A3k ?_
 clear ho
 refine Q_op fun ho=>A3d ho Z Z Z Z (fun h=>?_) (fun h=>?_)
 ·have h:=of_decide_eq_false h
  refine pn ?_
  exact A1k tab [] (Back.here fun p=>Nat.zero_le _) (B0w (by unfold A2h;rw [if_neg (not_not_intro hp),if_pos h]) dM)
 have hf:=of_decide_eq_true h
 clear h ho
 repeat (first|refine st ?_|refine qb fun bx=>?_)
 refine Q_op fun ho=>A3d ho Z Z Z Z (fun h=>?_) (fun h=>?_)
 ·have h:¬ws.length≤8:=by have h:=of_decide_eq_false h;omega
  refine pn ?_
  exact A1k tab [] (Back.here fun p=>Nat.zero_le _) (B0w (by unfold A2h;rw [if_neg (not_not_intro hp),if_neg (not_not_intro hf),if_pos h]) dM)
 have hl:ws.length≤8:=by have h:=of_decide_eq_true h;omega
 clear h ho
 have hE:A2h P F ws=A8y P.toNat F.toNat ws:=by unfold A2h;rw [if_neg (not_not_intro hp),if_neg (not_not_intro hf),if_neg (not_not_intro hl)]
 rw [hE]
 obtain⟨Pn,rfl⟩:=Int.eq_ofNat_of_zero_le (show 0≤P by omega)
 obtain⟨Fn,rfl⟩:=Int.eq_ofNat_of_zero_le hf.1
 clear hE
 simp only [Int.toNat_natCast]
 repeat (first|refine st ?_|refine qb fun bx=>?_)
 refine A1o (α:=Nat) (fun i=>⟨[],[(20,.int .i64 i),(19,.int .i64 ws.length),(18,.slice wa ws.length wc),(1,.pointer (some ⟨bx,0,none⟩))],[(bx,(boV Pn Fn wa ws.length wc).cells,24)]⟩)
  (fun i u=>u=v∧i≤ws.length∧A8y Pn Fn ws=A8y Pn Fn (ws.drop i)) (fun i=>ws.length-i) 0 ⟨Z,rg,cntL⟩ (Le.refl _) ⟨Z,Nat.zero_le _,Z⟩ ?_
 rintro i u ⟨rfl,hi,hE⟩
 repeat (first|refine st ?_|refine qb fun bx=>?_)
 refine A0t Z (fun h=>?_) (fun h=>?_)
 ·replace h:=fa h
  have hlt:i<ws.length:=oM
  obtain⟨bb,off,p,c,e,f,rfl,hv,hc⟩:=hws.get hlt
  rw [List.drop_eq_getElem_cons hlt,A8y]at hE
  repeat (first|refine st ?_|refine qb fun bx=>?_)
  refine A2t tab i Z Z Z Z Z Z Z hlt ?_
  refine A2p tab Z Z Z hv (A2d tab Z Z Z (hc i hlt)) ?_
  repeat (first|refine st ?_|refine qb fun bx=>?_)
  refine Q_op fun ho=>A6g ho bod104 Z Z Z Z (B3t oM oM) (fun h=>?_) (fun h=>?_)
  ·rw [if_neg h]at hE
   refine pn ?_
   exact A1k tab [] (Back.here fun p=>Nat.zero_le _) (B0w hE h)
  clear ho
  rw [if_pos h]at hE
  repeat (first|refine st ?_|refine qb fun bx=>?_)
  exact A0c ⟨i+1,u,(by have:=hlt;omega),⟨Z,rg,cntL⟩,Le.refl _,Z,hlt,hE⟩
 ·replace h:=fa h
  have hin:i=ws.length:=oM
  subst hin
  rw [List.drop_length]at hE
  repeat (first|refine st ?_|refine qb fun bx=>?_)
  exact A1t tab [] .nil (Back.here fun p=>Nat.zero_le _) (RetE_ret hE)
theorem A6u{P F:Int}{ws:List Wd}(hws:WdsAt v wa ws)(hwl:ws.length<2^30):CallsB prog mn 79 #[boV P F wa ws.length wc] (RetE (A2h P F ws) (boV P F wa ws.length wc)) [] v:=by
 refine A0f tab func79 Z nB (args:=[_]) ?_
 repeat (first|refine st ?_|refine qb fun bx=>?_)
 refine Q_op fun ho=>A6g ho bod126 Z Z Z Z (check_x (hws.le (A0b _ _)) hwl) (fun h=>?_) (fun h=>?_)
 ·refine pn ?_
  exact A1k tab [] (Back.here fun p=>Nat.zero_le _) (B0w Z h)
 clear ho
 repeat (first|refine st ?_|refine qb fun bx=>?_)
 refine A0l tab (xs:=[boV P F wa ws.length wc]) [] (by exact .cell rfl .head Z .nil) (Back.here fun p=>Nat.zero_le _) (RetE_ret h)
end
section
variable{v:View}{wa:Option Addr}{wc:Nat}
theorem wordsE_all{P F:Nat}:∀{ws:List Wd},A8y P F ws=0→∀x∈ws,A2k P F x=0
 | [],_,_,hx=>by simp at hx
 | y::ws,h,x,hx=>by
  rw [A8y]at h
  by_cases h0:A2k P F y=0
  ·rw [if_pos h0]at h
   rcases List.mem_cons.1 hx with rfl|hx
   ·exact h0
   ·exact wordsE_all h x hx
  ·rw [if_neg h0]at h;exact absurd h h0
theorem fitE{P F:Nat}{x:Wd}(hP:P≤4)(hF:F≤3)(h:A2k P F x=0):Fit x:=by
 unfold A2k at h
 refine⟨?_,?_,?_,?_⟩<;>(revert h;(repeat' split)<;>omega)
structure VOk(P F:Nat)(ws:List Wd):Prop where
 p1:1≤P
 p4:P≤4
 f3:F≤3
 w8:ws.length≤8
 all:∀x∈ws,A2k P F x=0
theorem VOk.fit{P F:Nat}{ws:List Wd}(h:VOk P F ws):∀x∈ws,Fit x:=fun x hx=>fitE h.p4 h.f3 (h.all x hx)
theorem A4w{P F:Int}{ws:List Wd}(h:A2h P F ws=0):∃Pn Fn:Nat,P=Pn∧F=Fn∧VOk Pn Fn ws:=by
 unfold A2h at h
 by_cases h1:1≤P∧P≤4
 ·rw [if_neg (not_not_intro h1)]at h
  by_cases h2:0≤F∧F≤3
  ·rw [if_neg (not_not_intro h2)]at h
   by_cases h3:ws.length≤8
   ·rw [if_neg (not_not_intro h3)]at h
    exact⟨P.toNat,F.toNat,oM,oM,oM,oM,oM,h3,wordsE_all h⟩
   ·rw [if_pos h3]at h;cases h
  ·rw [if_pos h2]at h;cases h
 ·rw [if_pos h1]at h;cases h
def countV(P F:Int)(ws:List Wd):Value:=.tuple #[.int .i64 (if A2h P F ws=0 then(A0g P.toNat F.toNat ws).length else(0:Nat)),.int .i64 (A2h P F ws)]
theorem Count_x{P F:Int}{ws:List Wd}(hws:WdsAt v wa ws)(hwl:ws.length<2^30):CallsB prog ⟨true,true⟩ 25 #[boV P F wa ws.length wc] (RetB fun r β'=>r=countV P F ws∧β'=[]) [] v:=by
 refine A3m tab A4x func25 Z nB (args:=[_]) ?_
 unfold countV
 repeat (first|refine st ?_|refine qb fun bx=>?_)
 refine Q_op fun ho=>A6x Z ho Z Z ?_
 clear ho
 repeat (first|refine st ?_|refine qb fun bx=>?_)
 refine Q_op fun ho=>A6g ho bod79 Z Z Z Z (A6u (hws.le (A0b _ _)) hwl) (fun h=>?_) (fun h=>?_)
 ·refine pn ?_
  exact A2n tab Z ib dM sb (xs:=[_,_]) (by exact .tmp rfl (.cell rfl ib rfl .nil)) (Back.here fun p=>Nat.zero_le _) ⟨by rw [if_neg h];rfl,Z⟩
 clear ho
 rw [if_pos h]
 obtain⟨P,F,rfl,rfl,hv⟩:=A4w h
 simp only [Int.toNat_natCast]
 repeat (first|refine st ?_|refine qb fun bx=>?_)
 refine Q_op fun ho=>A0i [] _ ho bod80 Z Z Z Z Z A1n (worlds_x hv.p4 hv.f3 (hws.le (A0b _ _)) hv.fit hwl) (fun x β' hR=>?_)
 clear ho
 obtain⟨a,cap,rfl,hS⟩:=hR
 repeat (first|refine st ?_|refine qb fun bx=>?_)
 exact A6e tab Z (xs:=[_,_]) (by exact .tmp rfl (.cell rfl ib rfl .nil)) (Back.here fun p=>Nat.zero_le _) ⟨by rw [h];rfl,Z⟩
end
end Go.Proofs.YtiolobmgibdfmaaGreat
end
section
namespace Go.Pal
open Go Go.Conc View
theorem Back.forget{v u:View}{β1 β' β:A0j}(h1:Bok β1 v)(h:Back (v.union (A0e β1)) β' u β):Back v β' u β:=fun hb=>by
 obtain⟨h2,h3⟩:=h.retired h1 hb
 obtain⟨h4,h5⟩:=(Back.here (v:=v) (β':=β') (β:=β'++β1) (fun p=>by simp only [A2g];omega)) h2
 exact⟨h4,h5.trans h3⟩
end Go.Pal
namespace Go.Proofs.YtiolobmgibdfmaaGreat
open Go Go.Pal Go.Pal.Vo Go.Conc View
open Go.Proofs.Tryz
set_option maxHeartbeats 4000000
section
variable{rd:Option Nat}{n:Nat}{Q:Exit→St→View→Prop}{ds:List Deferred}{ρ:Regs}{β:A0j}{v:View}{K:St→View→Prop}
 {ops:Array Oper}{i:Nat}{d:Nat}{ty:TypeId}{pos:String}{af:Array Edge}{gu:Option (Nat×Bool)}{wa:Option Addr}{wc:Nat}
theorem B1u{f:Operand}{args:Array Operand}{ats:Array TypeId}{P F:Nat}{ws:List Wd}(ho:ops[i]?=some ⟨some d,.call {callee:=.value f,args:=args,argTypes:=ats },ty,pos,af,gu⟩)(hw:A0x ops gu ρ=some true)(hn:Nat.blt d n=true)
    (hf:ρ.val f=some (.func (.func 83) #[] #[]))(hxs:A3q ρ.val args.toList=some [boV P F wa ws.length wc])(hv:VOk P F ws)(hws:WdsAt v wa ws)(hwl:ws.length<2^30)
    (h2:A0g P F ws=[]→Q (.panic (panC 11)) ⟨ds,ρ,β⟩ v)(h1:A0g P F ws≠[]→∀a cap βw,OwnS 102 2 βw a (A0g P F ws).length cap (wsC (A0g P F ws))→K ⟨ds,(d,.slice a (A0g P F ws).length cap)::ρ,βw++β⟩ v):XOp prog ⟨true,true⟩ rd n ops i Q K ⟨ds,ρ,β⟩ v:=by
  refine A7s [] β ho hw hn hf hxs bod83 (fun _=>rfl) (some_x hv.p4 hv.f3 (hws.le (A0b _ _)) hv.fit hwl) (fun y β' hR=>?_) (fun ch β' hR=>?_)
  · by_cases h0:A0g P F ws=[]
    · rw [if_pos h0]at hR;cases hR.1
    · rw [if_neg h0]at hR
      obtain⟨x,hx,a,cap,rfl,hS⟩:=hR
      injection hx with hx
      subst hx
      exact h1 h0 a cap β' hS
  · by_cases h0:A0g P F ws=[]
    · rw [if_pos h0]at hR
      obtain⟨hR,rfl⟩:=hR
      injection hR with hR
      subst hR
      exact h2 h0
    · rw [if_neg h0]at hR
      obtain⟨x,hx,_⟩:=hR
      cases hx
theorem A2m{a:Option Addr}{len cap:Nat}{cs:List Value}{βw:A0j}{e:TypeId}{k:Nat}(hb:Bok βw v)(h:OwnS e k βw a len cap cs):RowAt (v.union (A0e βw)) a cs:=RowAt.own hb (fun _=>Nat.le_refl _) h
theorem A4d{P F:Nat}{ws:List Wd}{w:Wl}(hP:P≤4)(hF:F≤3)(h:w∈A0g P F ws):w.1<256∧w.2<256:=by
 have h1:=(worldsL_mem.1 h).1
 have hp1:2 ^ P≤2^4:=Nat.pow_le_pow_right dM hP
 have hp2:2 ^ F≤2^3:=Nat.pow_le_pow_right dM hF
 omega
theorem A4s{P F:Nat}{ws:List Wd}(hP:P≤4)(hF:F≤3):(A0g P F ws).length≤128:=by
 have h1:∀(l:List Wl) (x:Wl),(insW P x l).length=l.length+1:=by
  intro l x
  induction l with
  | nil=>rfl
  | cons y r ih=>unfold insW;split<;>simp [ih]
 have h2:∀l:List Wl,(sortW P l).length=l.length:=by
  intro l
  induction l with
  | nil=>rfl
  | cons x r ih=>unfold sortW;rw [h1,ih];rfl
 have hp1:2 ^ P≤2^4:=Nat.pow_le_pow_right dM hP
 have hp2:2 ^ F≤2^3:=Nat.pow_le_pow_right dM hF
 have h3:2 ^ P*2 ^ F≤2^4*2^3:=Nat.mul_le_mul hp1 hp2
 have h4:=List.length_filter_le (can P ws) (A2a P F)
 unfold A0g
 rw [h2]
 rw [A3w]at h4
 omega
end
section
variable{v:View}{wa:Option Addr}{wc:Nat}
def wlsE(P F:Int)(ws:List Wd):List Wl:=if A2h P F ws=0 then A0g P.toNat F.toNat ws else []
def voidE(l:List Wl):Int:=if l.isEmpty then 11 else 0
theorem A9v{l:List Wl}(h:l≠[]):voidE l=0:=by cases l with
 | nil=>exact absurd rfl h
 | cons x l=>rfl
def errS(P F:Int)(ws:List Wd):Int:=if A2h P F ws=0 then voidE (A0g P.toNat F.toNat ws)else A2h P F ws
theorem headD_get{l:List Wl}(h:0<l.length):l.headD (0,0)=l[0]:=by
 cases l with
 | nil=>cases h
 | cons y l=>rfl
theorem OwnT.zero:OwnT [] (.agg #[.slice none 0 0,.slice none 0 0]) (0,0):=⟨[],[],_,_,Z,⟨none,0,Z,.nil⟩,⟨none,0,Z,.nil⟩,Z⟩
theorem Fewest_x{P F:Int}{ws:List Wd}(hws:WdsAt v wa ws)(hwl:ws.length<2^30):CallsB prog ⟨true,true⟩ 27 #[boV P F wa ws.length wc] (RetB fun r β'=>∃t,r = .tuple #[t,.int .i64 (errS P F ws)]∧OwnT β' t ((wlsE P F ws).headD (0,0))) [] v:=by
 refine A3m tab A4x func27 Z nB (args:=[_]) ?_
 unfold wlsE errS
 repeat (first|refine st ?_|refine qb fun bx=>?_)
 refine Q_op fun ho=>A6x Z ho Z Z ?_
 clear ho
 repeat (first|refine st ?_|refine qb fun bx=>?_)
 refine Q_op fun ho=>A6g ho bod79 Z Z Z Z (A6u (hws.le (A0b _ _)) hwl) (fun h=>?_) (fun h=>?_)
 ·refine pn ?_
  exact A2n tab Z ib dM sb (xs:=[_,_]) (by exact .cell rfl ib rfl (.cell rfl ib rfl .nil)) (Back.here fun p=>Nat.zero_le _) ⟨_,by rw [if_neg h];rfl,by rw [if_neg h];exact OwnT.zero⟩
 clear ho
 rw [if_pos h,if_pos h]
 obtain⟨P,F,rfl,rfl,hv⟩:=A4w h
 simp only [Int.toNat_natCast]
 refine Q_op fun ho=>B1u ho Z Z Z Z hv hws hwl (fun h=>?_) (fun hne a cap βw hS=>?_)
 ·refine pn ?_
  rw [h]
  exact A2n tab Z ib dM sb (xs:=[_,_]) (by exact .cell rfl ib rfl (.cell rfl ib rfl .nil)) (Back.here fun p=>Nat.zero_le _) ⟨_,Z,OwnT.zero⟩
 clear ho
 rw [A9v hne]
 refine A0w (β1:=βw) cntA (fun hbw=>?_)
 have hrow:=A2m hbw hS
 have hlt:0<(A0g P F ws).length:=List.length_pos_iff.2 hne
 obtain⟨b,off,q,c,e,f,rfl,hv',hc⟩:=A9r hrow hlt
 repeat (first|refine st ?_|refine qb fun bx=>?_)
 refine A2t tab 0 Z Z Z Z Z Z Z hlt ?_
 refine A2p tab Z Z Z hv' (A2d tab Z Z Z (hc 0 hlt)) ?_
 have hwlt:=A4d hv.p4 hv.f3 (List.getElem_mem hlt)
 refine Q_op fun ho=>A0i [] _ ho bod82 Z Z Z Z Z A1n (told_x hwlt.1 hwlt.2) (fun x β' hR=>?_)
 clear ho
 obtain⟨β1,β2,x1,x2,rfl,⟨a1,c1,rfl,hx1⟩,⟨a2,c2,rfl,hx2⟩,rfl⟩:=hR
 repeat (first|refine st ?_|refine qb fun bx=>?_)
 refine A6e tab Z (β':=β1++β2) (xs:=[_,_]) (by exact .cell rfl ib rfl (.cell rfl ib rfl .nil)) (Back.forget hbw (Back.here cntL)) ⟨_,Z,?_⟩
 have:(A0g P F ws).headD (0,0)=(A0g P F ws)[0]:=by
  exact headD_get hlt
 rw [this]
 exact⟨β1,β2,_,_,Z,⟨a1,c1,Z,hx1⟩,⟨a2,c2,Z,hx2⟩,Z⟩
end
end Go.Proofs.YtiolobmgibdfmaaGreat
end
section
namespace Go.Proofs.YtiolobmgibdfmaaGreat
open Go Go.Pal Go.Pal.Vo Go.Conc View
open Go.Proofs.Tryz
set_option maxHeartbeats 4000000
set_option maxRecDepth 20000
section
variable{v:View}{wa:Option Addr}{wc:Nat}
theorem ext_fst{c:Array Value}{i:Nat}{w:Wl}(h:i+2≤c.size∧c.extract i (i+2)=(wC w).toArray):c[i]?=some (u8 w.1):=by
 have h1:=congrArg (fun a:Array Value=>a[0]?) h.2
 simp only [Array.getElem?_extract]at h1
 rw [if_pos oM]at h1
 exact h1
def liarsV(P:Nat)(l:List Wl):Value:=match l with
 | []=>.agg #[.int .i64 0,.int .i64 0]
 | w::l=>.agg #[.int .i64 ((P:Int)-cnt w.1),.int .i64 ((P:Int)-cnt ((w::l).getLast sM).1)]
theorem liarsV_ne{P:Nat}{l:List Wl}(h:0<l.length):liarsV P l = .agg #[.int .i64 ((P:Int)-cnt l[0].1),.int .i64 ((P:Int)-cnt l[l.length-1].1)]:=by
 cases l with
 | nil=>cases h
 | cons w l=>simp [liarsV,List.getLast_eq_getElem]
theorem Liars_x{P F:Int}{ws:List Wd}(hws:WdsAt v wa ws)(hwl:ws.length<2^30):CallsB prog ⟨true,true⟩ 29 #[boV P F wa ws.length wc] (RetB fun r β'=>r = .tuple #[liarsV P.toNat (wlsE P F ws),.int .i64 (errS P F ws)]∧β'=[]) [] v:=by
 refine A3m tab A4x func29 Z nB (args:=[_]) ?_
 unfold wlsE errS
 repeat (first|refine st ?_|refine qb fun bx=>?_)
 refine Q_op fun ho=>A6x Z ho Z Z ?_
 clear ho
 repeat (first|refine st ?_|refine qb fun bx=>?_)
 refine Q_op fun ho=>A6g ho bod79 Z Z Z Z (A6u (hws.le (A0b _ _)) hwl) (fun h=>?_) (fun h=>?_)
 ·refine pn ?_
  exact A2n tab Z ib dM sb (xs:=[_,_]) (by exact .cell rfl ib rfl (.cell rfl ib rfl .nil)) (Back.here fun p=>Nat.zero_le _) ⟨by rw [if_neg h,if_neg h];rfl,Z⟩
 clear ho
 rw [if_pos h,if_pos h]
 obtain⟨P,F,rfl,rfl,hv⟩:=A4w h
 simp only [Int.toNat_natCast]
 refine Q_op fun ho=>B1u ho Z Z Z Z hv hws hwl (fun h=>?_) (fun hne a cap βw hS=>?_)
 ·refine pn ?_
  rw [h]
  exact A2n tab Z ib dM sb (xs:=[_,_]) (by exact .cell rfl ib rfl (.cell rfl ib rfl .nil)) (Back.here fun p=>Nat.zero_le _) ⟨Z,Z⟩
 clear ho
 rw [A9v hne]
 refine A0w (β1:=βw) cntA (fun hbw=>?_)
 have hrow:=A2m hbw hS
 have hlt:0<(A0g P F ws).length:=List.length_pos_iff.2 hne
 have hlen:=A4s (ws:=ws) hv.p4 hv.f3
 obtain⟨b,off,q,c,e,f,rfl,hv',hc⟩:=A9r hrow hlt
 have hl1:(A0g P F ws).length-1<(A0g P F ws).length:=oM
 have hw0:=A4d hv.p4 hv.f3 (List.getElem_mem hlt)
 have hw1:=A4d hv.p4 hv.f3 (List.getElem_mem hl1)
 rw [liarsV_ne hlt]
 have hP4:=hv.p4
 have hc0:=cnt_le hw0.1
 have hc1:=cnt_le hw1.1
 repeat (first|refine st ?_|refine qb fun bx=>?_)
 refine A2u [6,17,19,21,23,24] [0,1,2,3,4,5,8,9,10,11,12,13,14,15,16,6,7,17,18,19,20,21,22,23,24] A1w Z kR ?_
 repeat (first|refine st ?_|refine qb fun bx=>?_)
 refine A0v tab 0 Z Z Z kR Z Z Z Z Z hlt ?_
 repeat (first|refine st ?_|refine qb fun bx=>?_)
 refine A8d tab Z Z Z kR Z hv' (A1b tab Z Z Z (ext_fst (hc 0 hlt))) ?_
 repeat (first|refine st ?_|refine qb fun bx=>?_)
 refine A0v tab ((A0g P F ws).length-1) Z Z Z kR Z Z oM Z Z hl1 ?_
 repeat (first|refine st ?_|refine qb fun bx=>?_)
 refine A8d tab Z Z Z kR Z hv' (A1b tab Z Z Z (ext_fst (hc _ hl1))) ?_
 repeat (first|refine st ?_|refine qb fun bx=>?_)
 refine S_do kR (A0i [] _ Z bod85 Z Z Z Z Z A1n (A7q hw0.1) (fun x β' hR=>⟨Le.refl _,?_,?_⟩))
 ·exact kp
 obtain⟨rfl,rfl⟩:=hR
 repeat (first|refine st ?_|refine qb fun bx=>?_)
 refine S_do kR (A0i [] _ Z bod85 Z Z Z Z Z A1n (A7q hw1.1) (fun x β' hR=>⟨Le.refl _,?_,?_⟩))
 ·exact kp
 obtain⟨rfl,rfl⟩:=hR
 repeat (first|refine st ?_|refine qb fun bx=>?_)
 exact A6e tab Z (β':=[]) (xs:=[_,_]) (by exact .cell rfl ib rfl (.cell rfl ib rfl .nil)) (Back.forget hbw (Back.here fun p=>Nat.zero_le _)) ⟨Z,Z⟩
end
section
variable{mn:Who}{v:View}{a:Option Addr}{cap:Nat}
def idxL{α:Type}(p:α→Bool):List α→Nat→Int
 | [],_=>-1
 | x::l,i=>if p x then(i:Int)else idxL p l (i+1)
theorem indexW_x{l:List Wl}{p:Wl→Bool}{k:FuncId}{captured:Array Value}(hrow:RowAt v a (wsC l))(hlen:l.length<2^30)(hk:A0n prog k)
  (hf:∀w∈l,∀u,v.Le u→Ret1 prog mn k (wlV w::captured.toList) (.bool (p w)) u):Ret1 prog mn 120 [.slice a l.length cap,.func (.func k) #[] captured] (.int .i64 (idxL p l 0)) v:=by
 refine A0f tab func120 Z nB (args:=[_,_]) ?_
 repeat refine st ?_
 refine A1o (α:=Nat) (fun i=>⟨[],[(8,.int .i64 i),(7,.int .i64 l.length),(0,.slice a l.length cap),(1,.func (.func k) #[] captured)],[]⟩)
  (fun i u=>u=v∧i≤l.length∧idxL p l 0=idxL p (l.drop i) i) (fun i=>l.length-i) 0 ⟨Z,rg,cntL⟩ (Le.refl _) ⟨Z,Nat.zero_le _,Z⟩ ?_
 rintro i u ⟨rfl,hi,hE⟩
 repeat refine st ?_
 refine A0t Z (fun h=>?_) (fun h=>?_)
 ·replace h:=fa h
  have hlt:i<l.length:=oM
  obtain⟨b,off,q,c,e,f,rfl,hv,hc⟩:=A9r hrow hlt
  rw [List.drop_eq_getElem_cons hlt,idxL]at hE
  repeat refine st ?_
  refine A2t tab i Z Z Z Z Z Z Z hlt ?_
  refine A2p tab Z Z Z hv (A2d tab Z Z Z (hc i hlt)) ?_
  repeat refine st ?_
  refine Q_op fun ho=>A0s ho hk Z Z Z Z (List.nil_append _) (hf l[i] (List.getElem_mem hlt) _ (Le.refl _)) ?_
  clear ho
  cases hp:p l[i]with
  | true=>
   rw [hp,if_pos rfl]at hE
   repeat refine st ?_
   refine A0l tab [] (by exact .tmp rfl .nil) (Back.here cntL) ?_
   rw [hE];exact⟨Z,Z⟩
  | false=>
   rw [hp,if_neg dM]at hE
   repeat refine st ?_
   exact A0c ⟨i+1,u,(by have:=hlt;omega),⟨Z,rg,cntL⟩,Le.refl _,Z,hlt,hE⟩
 ·replace h:=fa h
  have hin:i=l.length:=oM
  subst hin
  rw [List.drop_length]at hE
  repeat refine st ?_
  refine A0l tab [] (by exact .tmp rfl .nil) (Back.here cntL) ?_
  rw [hE];exact⟨Z,Z⟩
theorem followsF_x{P:Nat}{F:Int}{wa:Option Addr}{n wc:Nat}{x:Wd}{w:Wl}{b1 b2:Nat}{q1 q2:Bool}{e1 e2:TypeId}{f1 f2:Nat×Nat}(hP:P<256)(hx:Fit x)(h1:w.1<256)(h2:w.2<256)(hv1:v b1=some (q1,.cells (boV P F wa n wc).cells e1 f1))(hv2:v b2=some (q2,.cells #[B2x x] e2 f2)) :
  Ret1 prog mn 106 [wlV w,.pointer (some ⟨b1,0,none⟩),.pointer (some ⟨b2,0,none⟩)] (.bool (A4h P x w)) v:=by
 refine A0f tab func106 Z nB (args:=[_,_,_]) ?_
 repeat (first|refine st ?_|refine qb fun bx=>?_)
 refine A2p tab Z Z Z hv1 (A2d tab (k:=3) (x:=[.int .i64 P,.int .i64 F,.slice wa n wc]) Z Z Z ⟨Nat.le_refl _,Z⟩) ?_
 refine A2p tab Z Z Z hv2 (x:=B2x x) (A1b tab Z Z Z Z) ?_
 repeat (first|refine st ?_|refine qb fun bx=>?_)
 refine Q_op fun ho=>A0s ho bod107 Z Z Z Z Z (holds_x hP hx h1 h2) ?_
 clear ho
 repeat (first|refine st ?_|refine qb fun bx=>?_)
 refine A0l tab [] (by exact .tmp rfl .nil) (Back.here cntL) ?_
 exact⟨Z,Z⟩
end
section
variable{v:View}{wa:Option Addr}{wc:Nat}
theorem A9c{β:A0j}{b:Nat}{c:Array Value}{t:TypeId}(hb:Bok β v)(h:InB b c t β):(v.union (A0e β)) b=some (true,.cells c t (0,0)):=A1f hb h
theorem says_iface{x:Wd}(h:Fit x):∃ty y,B2x x = .iface ty y:=by
 have hk:=h.k
 rcases says_split x with ⟨_,hno⟩|⟨k,hk,_,hs⟩
 ·exact absurd (show x.kind=((x.kind.toNat:Nat):Int) by omega) (hno x.kind.toNat oM)
 ·rw [hs]
  unfold sayN
  split<;>exact⟨_,_,rfl⟩
def errF(P F:Int)(ws:List Wd)(x:Wd):Int:=if A2h P F ws=0 then(if A2k P.toNat F.toNat x=0 then voidE (A0g P.toNat F.toNat ws)else A2k P.toNat F.toNat x)else A2h P F ws
theorem B4e{P F:Int}{ws:List Wd}{x:Wd}(hws:WdsAt v wa ws)(hwl:ws.length<2^30) :
  CallsB prog ⟨true,true⟩ 42 #[boV P F wa ws.length wc,wdV x] (RetB fun r β'=>r = .tuple #[.int .i64 (if errF P F ws x=0 then verd (A0g P.toNat F.toNat ws) (A4h P.toNat x)else 0),.int .i64 (errF P F ws x)]∧β'=[]) [] v:=by
 refine A3m tab A4x func42 Z nB (args:=[_,_]) ?_
 repeat (first|refine st ?_|refine qb fun bx=>?_)
 refine Q_op fun ho=>A6x Z ho Z Z ?_
 clear ho
 repeat (first|refine st ?_|refine qb fun bx=>?_)
 refine Q_op fun ho=>A6g ho bod79 Z Z Z Z (A6u (hws.le (A0b _ _)) hwl) (fun h=>?_) (fun h=>?_)
 ·have he:errF P F ws x=A2h P F ws:=if_neg h
  rw [he,if_neg h]
  refine pn ?_
  exact A2n tab Z ib dM sb (xs:=[_,_]) (by exact .tmp rfl (.cell rfl ib rfl .nil)) (Back.here fun p=>Nat.zero_le _) ⟨Z,Z⟩
 clear ho
 rw [show errF P F ws x=if A2k P.toNat F.toNat x=0 then voidE (A0g P.toNat F.toNat ws)else A2k P.toNat F.toNat x from if_pos h]
 obtain⟨P,F,rfl,rfl,hv⟩:=A4w h
 simp only [Int.toNat_natCast]
 have hP4:=hv.p4
 have hF3:=hv.f3
 repeat (first|refine st ?_|refine qb fun bx=>?_)
 refine Q_op fun ho=>A6g ho bod104 Z Z Z Z (B3t oM oM) (fun h=>?_) (fun h=>?_)
 ·rw [if_neg h,if_neg h]
  refine pn ?_
  exact A2n tab Z ib dM sb (xs:=[_,_]) (by exact .tmp rfl (.cell rfl ib rfl .nil)) (Back.here fun p=>Nat.zero_le _) ⟨Z,Z⟩
 clear ho
 rw [if_pos h]
 have hfit:=fitE hv.p4 hv.f3 h
 repeat (first|refine st ?_|refine qb fun bx=>?_)
 refine Q_op fun ho=>A0s ho bod105 Z Z Z Z Z (B3e (x:=x)) ?_
 clear ho
 obtain⟨ty,y,hs⟩:=says_iface hfit
 rw [hs]
 repeat (first|refine st ?_|refine qb fun bx=>?_)
 rename_i b2 b3 b5 hchk bm
 refine Q_op fun ho=>B1u ho Z Z Z Z hv hws hwl (fun h=>?_) (fun hne a cap βw hS=>?_)
 ·refine pn ?_
  rw [h]
  exact A2n tab Z ib dM sb (xs:=[_,_]) (by exact .tmp rfl (.cell rfl ib rfl .nil)) (Back.here fun p=>Nat.zero_le _) ⟨Z,Z⟩
 clear ho
 rw [A9v hne,if_pos rfl]
 refine A0w (β1:=βw++[(bx,#[.iface ty y],124),(bm,(boV P F wa ws.length wc).cells,95)]) (β2:=[(b5,#[.int .i64 0],34),(b3,(wdV x).cells,26),(b2,(boV P F wa ws.length wc).cells,24)])
  (show ∀p,Pal.cnt p (βw++[(bx,#[.iface ty y],124),(bm,(boV P F wa ws.length wc).cells,95),(b5,#[.int .i64 0],34),(b3,(wdV x).cells,26),(b2,(boV P F wa ws.length wc).cells,24)])=Pal.cnt p ((βw++[(bx,#[.iface ty y],124),(bm,(boV P F wa ws.length wc).cells,95)])++[(b5,#[.int .i64 0],34),(b3,(wdV x).cells,26),(b2,(boV P F wa ws.length wc).cells,24)])from cntA) (fun hbk=>?_)
 have hrow:=RowAt.own hbk (show Subm βw (βw++[(bx,#[.iface ty y],124),(bm,(boV P F wa ws.length wc).cells,95)])from cntL) hS
 have hv1:=A9c hbk (b:=bm) ib
 have hv2:=A9c hbk (b:=bx) ib
 have hlen:=A4s (ws:=ws) hv.p4 hv.f3
 repeat (first|refine st ?_|refine qb fun bx=>?_)
 refine Q_op fun ho=>A0s ho bod101 Z Z Z Z Z (verdict_x (p:=A4h P x) hrow oM bod106 (fun w hw u hl=>followsF_x oM hfit (A4d hv.p4 hv.f3 hw).1 (A4d hv.p4 hv.f3 hw).2 (hl _ _ hv1) (by rw [hs];exact hl _ _ hv2))) ?_
 clear ho
 repeat (first|refine st ?_|refine qb fun bx=>?_)
 exact A6e tab Z (β':=[]) (xs:=[_,_]) (by exact .tmp rfl (.cell rfl ib rfl .nil)) (Back.forget hbk (Back.here fun p=>Nat.zero_le _)) ⟨Z,Z⟩
end
end Go.Proofs.YtiolobmgibdfmaaGreat
end
section
namespace Go.Pal
open Go Go.Conc View
section
variable{P:Program}{mn:Who}(T:Tab P){rd:Option Nat}{n:Nat}{Q:Exit→St→View→Prop}{ds:List Deferred}{ρ:Regs}{β:A0j}{v:View}{K:St→View→Prop}
 {ops:Array Oper}{i:Nat}{d:Nat}{ty:TypeId}{pos:String}{af:Array Edge}{gu:Option (Nat×Bool)}
theorem A_clear{t t' e:TypeId}{y:Operand}{b off len cap:Nat}{z:Value}{c:Array Value}{β':A0j}(ho:ops[i]?=some ⟨none,.call {callee:=.builtin .clear,args:=#[y],argTypes:=#[t] },ty,pos,af,gu⟩)(hw:A0x ops gu ρ=some true)
  (hy:ρ.val y=some (.slice (some ⟨b,off,none⟩) (len+1) cap))(ht:T.und t=some (.slice e))(hz:T.zer e=some z)(hone:z.cells.toList.all A3z=true)(hb:InB b c t' β)(hoff:off+(len+1)*z.cells.size≤c.size)
  (hset:SetB b (A1l c off (Builtin.zeroCells z.cells (len+1)).toList) β β')(h:K ⟨ds,ρ,β'⟩ v):XOp P mn rd n ops i Q K ⟨ds,ρ,β⟩ v:=by
 refine A2x ho (A0p hw) (.inr Z) Z fun ev hev hbk=>?_
 obtain⟨hbk',c₀,t₀,hin,hv⟩:=B0c hbk hset
 have hcc:c₀=c∧t₀=t':=by
  have h1:=A1f (v:=v) hbk hin
  have h2:=A1f (v:=v) hbk hb
  rw [h1]at h2
  simp only [Option.some.injEq,Prod.mk.injEq,Obj.cells.injEq]at h2
  exact⟨h2.2.1,h2.2.2.1⟩
 obtain⟨rfl,rfl⟩:=hcc
 have hall:(Builtin.zeroCells z.cells (len+1)).toList.all A3z=true:=by
  refine List.all_eq_true.2 fun x hx=>?_
  rw [Array.mem_toList_iff]at hx
  unfold Builtin.zeroCells at hx
  obtain⟨j,hj,rfl⟩:=Array.mem_map.1 hx
  have hlt:j<(len+1)*z.cells.size:=by simpa using hj
  have hpos:0<z.cells.size:=by
   rcases Nat.eq_zero_or_pos z.cells.size with h0|h0
   ·rw [h0]at hlt;simp at hlt
   ·exact h0
  have hm:j % z.cells.size<z.cells.size:=Nat.mod_lt _ hpos
  rw [getElem!_pos z.cells _ hm]
  exact List.all_eq_true.1 hone _ sM
 unfold execOp
 simp only [resolve,A0d,A0m,invoke,builtin]
 have h0:(#[y]:Array Operand).map ev=#[.slice (some ⟨b,off,none⟩) (len+1) cap]:=by simp [hev _ _ hy]
 rw [h0]
 unfold Builtin.clear_
 simp only [List.getElem?_toArray,List.getElem?_cons_zero,A0d,A1r T ht,A9x T hz]
 refine A5j (off:=off) (c:=c₀) (e:=t₀) (j:=0) hall (A1f hbk hin) (by rw [Array.length_toList,A6o];omega) ?_
 refine⟨β',v,⟨hbk',?_⟩,h⟩
 rw [hv]
 exact Le.refl _
end
end Go.Pal
end
