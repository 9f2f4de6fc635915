/- Part 8. -/
import Derived.Test.YtclejblcnfaeaaaGreatDoorPag
set_option linter.all false
section
namespace Go.Pal
open Go Go.Conc View
def Ret1(P:Program)(mn:Who)(k:FuncId)(args:List Value)(x:Value)(v:View):Prop:=CallsB P mn k args.toArray (RetB fun r β'=>r=x∧β'=[]) [] v
section
variable{P:Program}{mn:Who}{v u:View}
theorem Ret1.x{k:FuncId}{args:List Value}{x:Value}(h:Ret1 P mn k args x v):CallsX P mn k args.toArray (fun e u=>e = .ret x∧v.Le u) v:=by
 have h1:=h ⟨List.nodup_nil,fun _=>.inr Y⟩
 rw [show v.union (A0c [])=v from A1r v]at h1
 refine h1.mono fun e w hR=>⟨w,Le.refl _,?_⟩
 obtain⟨β',hR,_,hl⟩:=hR
 cases e with
 | ret y=>
  obtain⟨rfl,rfl⟩:=hR
  rw [A1r]at hl
  exact⟨Y,hl⟩
 | pan ch=>exact hR.elim
theorem Ret1.le{k:FuncId}{args:List Value}{x:Value}(h:Ret1 P mn k args x u)(hl:u.Le v):Ret1 P mn k args x v:=fun hb=>by
 obtain⟨F,rfl,hd⟩:=B0x hl
 rw [A1r]
 refine(CallsX.frame h.x hd).mono fun e w hR=>?_
 obtain⟨u',rfl,hd',rfl,hle⟩:=hR
 refine⟨_,Le.refl _,[],⟨Y,Y⟩,⟨List.nodup_nil,fun _=>.inr Y⟩,?_⟩
 rw [A1r]
 exact A2u hle hd'
theorem Ret1.box{k:FuncId}{args:List Value}{x:Value}{β:A0e}(h:Bok β v→Ret1 P mn k args x (v.union (A0c β))):CallsB P mn k args.toArray (RetB fun r β'=>r=x∧β'=β) β v:=fun hb=>
 (h hb).x.mono fun e w hR=>⟨w,Le.refl _,β,by obtain⟨rfl,hl⟩:=hR;exact⟨⟨Y,Y⟩,hb,hl⟩⟩
theorem CallsB.mono{k:FuncId}{args:Array Value}{R R':End→A0e→Prop}{β:A0e}(h:CallsB P mn k args R β v)(hR:∀e β,R e β→R' e β):CallsB P mn k args R' β v:=fun hb=>
 (h hb).mono fun e w ⟨β',h1,h2,h3⟩=>⟨w,Le.refl _,β',hR _ _ h1,h2,h3⟩
end
section
variable{P:Program}{mn:Who}(T:Tab P){rd:Option Nat}{n:Nat}{Q:Exit→St→View→Prop}{ds:List Deferred}{ρ:Regs}{β:A0e}{v:View}{K:St→View→Prop}
 {ops:Array Oper}{i:Nat}{l:List Oper}{d:Nat}{ty:TypeId}{pos:String}{af:Array Edge}{gu:Option (Nat×Bool)}
theorem A0u{f:Operand}{args:Array Operand}{ats:Array TypeId}{k:FuncId}{first captured:Array Value}{xs ys:List Value}{x:Value}(ho:ops[i]?=some ⟨some d,.call {callee:=.value f,args:=args,argTypes:=ats },ty,pos,af,gu⟩)(hk:A0i P k)(hw:A0p ops gu ρ=some true)(hn:Nat.blt d n=true)
  (hf:ρ.val f=some (.func (.func k) first captured))(hxs:A2s ρ.val args.toList=some xs)(hys:first.toList++(xs++captured.toList)=ys)(hc:Ret1 P mn k ys x v)(h:K ⟨ds,(d,x)::ρ,β⟩ v):XOp P mn rd n ops i Q K ⟨ds,ρ,β⟩ v:=
 A0o [] β ho hk hw hn hf hxs hys (fun _=>rfl) (hc.le (A0g _ _)) (fun y β' hR=>by obtain⟨rfl,rfl⟩:=hR;exact h)
theorem A2w{f:Operand}{args:Array Operand}{ats:Array TypeId}{k:FuncId}{first captured:Array Value}{xs ys:List Value}{x:Value}(hk:A0i P k)(hw:A0p ops gu ρ=some true)(hn:Nat.blt d n=true)
  (hf:ρ.val f=some (.func (.func k) first captured))(hxs:A2s ρ.val args.toList=some xs)(hys:first.toList++(xs++captured.toList)=ys)(hc:Ret1 P mn k ys x v)(h:XL P mn n ops Q l ⟨ds,(d,x)::ρ,β⟩ v) :
  XL P mn n ops Q (⟨some d,.call {callee:=.value f,args:=args,argTypes:=ats },ty,pos,af,gu⟩::l) ⟨ds,ρ,β⟩ v:=by
 refine L_call hw hn hf hxs hk ?_ h
 have:(first++xs.toArray++captured:Array Value)=ys.toArray:=by rw [←hys];apply Array.ext';simp
 rw [this]
 exact hc.x
theorem A_inv1{recv:Operand}{name:String}{args:Array Operand}{ats:Array TypeId}{k:FuncId}{t:TypeId}{td:TypeDesc}{x y:Value}{xs ys:List Value}(ho:ops[i]?=some ⟨some d,.call {callee:=.invoke recv name,args:=args,argTypes:=ats },ty,pos,af,gu⟩)(hk:A0i P k)(hm:methB P t name k=true)(ht:T.und t=some td)(hp:plainD td=true)(hw:A0p ops gu ρ=some true)(hn:Nat.blt d n=true)
  (hx:ρ.val recv=some (.iface t x))(hxs:A2s ρ.val args.toList=some xs)(hys:x::xs=ys)(hc:Ret1 P mn k ys y v)(h:K ⟨ds,(d,y)::ρ,β⟩ v):XOp P mn rd n ops i Q K ⟨ds,ρ,β⟩ v:=
 A_invoke T [] β ho hk hm ht hp hw hn hx hxs hys (fun _=>rfl) (hc.le (A0g _ _)) (fun z β' hR=>by obtain⟨rfl,rfl⟩:=hR;exact h)
theorem A_byte{t:TypeId}{y z:Operand}{s:ByteArray}{j:Nat}{jz:Int}{k:IntKind}(ho:ops[i]?=some ⟨some d,.index t y z,ty,pos,af,gu⟩)(hw:A0p ops gu ρ=some true)(hn:Nat.blt d n=true)(hy:ρ.val y=some (.string s))(hz:ρ.val z=some (.int k jz))(hj:jz=j)(ht:T.und t=some .string){b:UInt8}(hb:s[j]?=some b)
  (h:K ⟨ds,(d,.int .u8 b.toNat)::ρ,β⟩ v):XOp P mn rd n ops i Q K ⟨ds,ρ,β⟩ v:=by
 refine A1w ho (A0j hw) (.inr Y) hn fun ev hev hbk=>?_
 subst hj
 simp only [execOp,A0a,hev _ _ hy,hev _ _ hz,Instr.index,asIntOf,A0h,A1k T ht]
 have:(0:Int)≤(j:Int):=oM
 simp only [this,if_true,Int.toNat_natCast,hb]
 exact⟨β,v,⟨hbk,Le.refl _⟩,h⟩
theorem B0d{x:Operand}{t:TypeId}{y:Value}(ho:ops[i]?=some ⟨none,.panic x,ty,pos,af,gu⟩)(hw:A0p ops gu ρ=some true)(hx:ρ.val x=some (.iface t y))
  (h:Q (.panic [{v:=.iface t y,recovered:=false }]) ⟨ds,ρ,β⟩ v):XOp P mn rd n ops i Q K ⟨ds,ρ,β⟩ v:=by
 refine A1w ho (A0j hw) (.inr Y) Y fun ev hev hbk=>?_
 simp only [execOp,A0a,hev _ _ hx,Instr.panic]
 exact⟨β,v,⟨hbk,Le.refl _⟩,h⟩
theorem A_defer{f:FuncId}{aS:Array Operand}{ats:Array TypeId}{xs:List Value}(hrd:rd=none)(ho:ops[i]?=some ⟨none,.defer {callee:=.value (.func f),args:=aS,argTypes:=ats },ty,pos,af,gu⟩)(hw:A0p ops gu ρ=some true)
  (hxs:A2s ρ.val aS.toList=some xs)(h:K ⟨dcall f xs.toArray::ds,ρ,β⟩ v):XOp P mn rd n ops i Q K ⟨ds,ρ,β⟩ v:=by
 refine A1w ho (A0j hw) (.inl hrd) Y fun ev hev hbk=>?_
 have ha:aS.map ev=xs.toArray:=Array.toList_inj.1 (by simpa using A2c hev hxs)
 have hf:ev (.func f) = .func (.func f) #[] #[]:=hev _ _ Y
 unfold execOp
 simp only [resolve,Deferred.ofValue,hf,ha,A0a,A0h]
 refine⟨hrd,β,v,⟨hbk,Le.refl _⟩,?_⟩
 simpa [dcall,putR]using h
end
def Lift(F u:View):Prop:=∀b x,F b=some x→∃o,x=(true,o)∧(u b=none∨u b=some (false,o))
section
variable{P:Program}{mn:Who}{Stop:View→Goroutine→Prop}{F u u':View}{w w':World}
theorem Lift.agree(h:Lift F u)(ha:(F.union u).Agree w):u.Agree w:=fun b p o e=>by
 cases hF:F b with
 | none=>exact ha b p o (by unfold View.union;rw [hF];exact e)
 | some x=>
  obtain⟨o',rfl,h1|h1⟩:=h b x hF
  ·rw [h1]at e;cases e
  ·rw [h1]at e;cases e
   exact ha b true o (by unfold View.union;rw [hF])
theorem Lift.mine(ha:(F.union u).Agree w):F.Agree w:=ha.le (A0g _ _)
theorem Lift.none(h:Lift F u){b:Nat}(ho:u.Owns b):F b = .none:=by
 cases hF:F b with
 | none=>rfl
 | some x=>
  obtain⟨o',ho⟩:=ho
  obtain⟨o,rfl,h1|h1⟩:=h b x hF<;>(rw [h1]at ho;cases ho)
theorem Lift.owns(h:Lift F u){b:Nat}(ho:u.Owns b):(F.union u).Owns b:=by
 have:=h.none ho
 obtain⟨o,ho⟩:=ho
 exact⟨o,by unfold View.union;rw [this];exact ho⟩
theorem Lift.step(h:Lift F u)(hF:F.Agree w)(ha:u'.Agree w')(keep:∀b,b<w.heap.size→¬u.Owns b→w'.heap[b]?=w.heap[b]?)(dom:∀b,u' b≠.none→u b≠.none∨w.heap.size≤b)(own:∀b,u'.Owns b→u.Owns b∨w.heap.size≤b) :
  Lift F u'∧(F.union u').Agree w'∧(∀b,b<w.heap.size→¬(F.union u).Owns b→w'.heap[b]?=w.heap[b]?)∧(∀b,(F.union u') b≠.none→(F.union u) b≠.none∨w.heap.size≤b)∧(∀b,(F.union u').Owns b→(F.union u).Owns b∨w.heap.size≤b):=by
 have hst:∀b o,F b = .some (true,o)→w'.heap[b]? = .some o:=fun b o hb=>by
  rw [keep b (hF.lt hb) fun hn=>?_]
  ·exact hF b true o hb
  ·have:=h.none hn
   rw [this]at hb;cases hb
 refine⟨fun b x hb=>?_,fun b p o e=>?_,fun b hb hn=>keep b hb fun ho=>hn (h.owns ho),fun b hb=>?_,fun b hb=>?_⟩
 ·obtain⟨o,rfl,_⟩:=h b x hb
  refine⟨o,Y,?_⟩
  cases hu:u' b with
  | none=>exact .inl rfl
  | some y=>
   obtain⟨p,o'⟩:=y
   right
   have h1:=ha b p o' hu
   rw [hst b o hb]at h1
   cases h1
   cases p with
   | false=>rfl
   | true=>
    exfalso
    rcases own b ⟨o,hu⟩with e|e
    ·rw [h.none e]at hb;cases hb
    ·exact absurd (hF.lt hb) oM
 ·unfold View.union at e
  cases hb:F b with
  | none=>rw [hb]at e;exact ha b p o e
  | some x=>
   rw [hb]at e
   cases e
   obtain⟨o',h1,_⟩:=h b _ hb
   cases h1
   exact hst b o hb
 ·unfold View.union at hb⊢
  cases hF':F b with
  | none=>rw [hF']at hb;exact dom b hb
  | some x=>exact .inl sM
 ·obtain⟨o,hb⟩:=hb
  unfold View.union at hb
  cases hF':F b with
  | none=>
   rw [hF']at hb
   rcases own b ⟨o,hb⟩with e|e
   ·exact .inl (h.owns e)
   ·exact .inr e
  | some x=>
   rw [hF']at hb
   cases hb
   exact .inl ⟨o,by unfold View.union;rw [hF']⟩
theorem BigStep.lift{g:Goroutine}{K:View→Goroutine→Prop}(k:BigStep P u g K)(h:Lift F u):BigStep P (F.union u) g (fun v' g'=>∃u',v'=F.union u'∧Lift F u'∧K u' g'):=fun gs w sl t q S hB=>by
 have hap:∀b,S b→u b=none:=fun b hb=>by
  have:=hB.apart b hb
  unfold View.union at this
  cases hF:F b with
  | none=>rw [hF]at this;exact this
  | some x=>rw [hF]at this;cases this
 obtain⟨N,gs',w',sl',t',q',S',v',g',h1,h2,h3,h4,h5⟩:=k gs w sl t q S {hB with agree:=h.agree hB.agree,apart:=hap }
 have hF:=Lift.mine hB.agree
 obtain⟨l1,l2,l3,l4,l5⟩:=h.step hF h3.agree h3.keep h3.dom h3.own
 refine⟨N,gs',w',sl',t',q',S',F.union v',g',h1,{h2 with agree:=l2,apart:=fun b hb=>?_ },⟨l2,h3.tape,h3.output,h3.os,h3.size,l3,l4,l5⟩,fun b hb=>(h4 b hb).imp id (Or.imp (fun e=>h.owns e) id),v',rfl,l1,h5⟩
 have hFb:F b=none:=by
  rcases h4 b hb with e|e|e
  ·have:=hB.apart b e
   unfold View.union at this
   cases hF':F b with
   | none=>rfl
   | some x=>rw [hF']at this;cases this
  ·exact h.none e
  ·cases hF':F b with
   | none=>rfl
   | some x=>exact absurd (hF.lt hF') oM
 unfold View.union
 rw [hFb]
 exact h2.apart b hb
def roV(v:View):View:=fun b=>(v b).map fun x=>(false,x.2)
end
section
variable{P:Program}{mn:Who}{Stop:View→Goroutine→Prop}{v:View}{b c:Frame}{k:List Item}{cs:List Frame}{a:Act}{ops:Array Oper}{i:Nat}{rest:List Nat}{d:Nat}{ats:Array TypeId}{ty:TypeId}{pos:String}{af:Array Edge}{gu:Option (Nat×Bool)}
theorem recOp_run{ev:Operand→Value}(w:World):(execOp ev ⟨some d,.call {callee:=.builtin .recover,args:=#[],argTypes:=ats },ty,pos,af,gu⟩).runT P w #[]=(.ok .recover w,#[]):=by
 unfold execOp
 simp [resolve,invoke,builtin,Sem.runT,Sem.bind]
theorem recOp_step{fr:Frame}{w:World}(hk:(fr.kind==CallKind.early)=false)(hr:fr.roundOf=none){ev:Operand→Value} :
  stepG.apply P true fr cs none (execOp ev ⟨some d,.call {callee:=.builtin .recover,args:=#[],argTypes:=ats },ty,pos,af,gu⟩) w =
   match tryRecover fr cs with
   | some (x,callers)=>.go {frame:=fr.finish x,callers,status:=.running,dying:=none } w
   | none=>.go {frame:=fr.finish .nilIface,callers:=cs,status:=.running,dying:=none } w:=by
 unfold stepG.apply
 simp only [if_true,recOp_run,hk,Bool.false_eq_true,if_false,hr,seen_none]
 cases h:tryRecover fr cs with
 | none=>simp [GStep.after]
 | some p=>obtain⟨x,cl⟩:=p;simp [GStep.after]
theorem run_recN(hk:b.kind = .deferred)(hr:b.roundOf=none)(ho:ops[i]?=some ⟨some d,.call {callee:=.builtin .recover,args:=#[],argTypes:=ats },ty,pos,af,gu⟩)(hw:Region.wanted ⟨some d,.call {callee:=.builtin .recover,args:=#[],argTypes:=ats },ty,pos,af,gu⟩ (yielded ops a.tmps)=true)
  (hm:c.mode = .returning)(h:Run P mn Stop v (G (b.on (a.put (some d) .nilIface) (.inRegion ops rest::k)) (c::cs))):Run P mn Stop v (G (b.on a (.inRegion ops (i::rest)::k)) (c::cs)):=by
 refine Run.ctl Y (fun w=>?_) h
 rw [A2a ho hw (.inl hr),recOp_step (by simp [Frame.on,hk]) (by simp [Frame.on,hr])]
 have:tryRecover (b.on a (.inRegion ops (i::rest)::k)) (c::cs)=none:=by
  unfold tryRecover
  simp [Frame.on,hk,hm]
 rw [this,A2g b a ops i rest k _ .nilIface ho]
 rfl
theorem run_recP{x:Value}(hk:b.kind = .deferred)(hr:b.roundOf=none)(ho:ops[i]?=some ⟨some d,.call {callee:=.builtin .recover,args:=#[],argTypes:=ats },ty,pos,af,gu⟩)(hw:Region.wanted ⟨some d,.call {callee:=.builtin .recover,args:=#[],argTypes:=ats },ty,pos,af,gu⟩ (yielded ops a.tmps)=true)
  (hm:c.mode = .panicking [⟨x,false,false⟩])(h:Run P mn Stop v (G (b.on (a.put (some d) x) (.inRegion ops rest::k)) ({c with mode:=.panicking [⟨x,true,false⟩] }::cs))):Run P mn Stop v (G (b.on a (.inRegion ops (i::rest)::k)) (c::cs)):=by
 refine Run.ctl Y (fun w=>?_) h
 rw [A2a ho hw (.inl hr),recOp_step (by simp [Frame.on,hk]) (by simp [Frame.on,hr])]
 have:tryRecover (b.on a (.inRegion ops (i::rest)::k)) (c::cs)=some (x,{c with mode:=.panicking [⟨x,true,false⟩] }::cs):=by
  unfold tryRecover
  simp [Frame.on,hk,hm]
 rw [this,←A2g b a ops i rest k _ x ho]
 rfl
theorem run_leaveD{fr:Frame}{fn:Func}(hm:fr.mode = .returning)(hd:fr.defers=[])(hk:fr.kind = .deferred)(hf:P.funcs[fr.fn]?=some fn)(hres:fn.results=#[])(hc:c.mode = .returning)(h:Run P mn Stop v (G c cs)):Run P mn Stop v (G fr (c::cs)):=by
 refine Run.ctl Y (fun w=>?_) h
 simp [G,stepG,unwind,hm,hd,hf,results,hres,doReturn,hk,hc,GStep.after,seen_none,Sem.runT,Sem.bind]
theorem run_leaveP{fr:Frame}{fn:Func}{x:Value}(hm:fr.mode = .returning)(hd:fr.defers=[])(hk:fr.kind = .deferred)(hf:P.funcs[fr.fn]?=some fn)(hres:fn.results=#[])(hc:c.mode = .panicking [⟨x,true,false⟩])(h:Run P mn Stop v (G {c with mode:=.returning } cs)):Run P mn Stop v (G fr (c::cs)):=by
 refine Run.ctl Y (fun w=>?_) h
 simp [G,stepG,unwind,hm,hd,hf,results,hres,doReturn,hk,hc,GStep.after,seen_none,Sem.runT,Sem.bind]
theorem run_end{fn:Func}(hr:b.roundOf=none)(hds:a.defers=[])(hk:b.kind = .deferred)(hf:P.funcs[b.fn]?=some fn)(hres:fn.results=#[])(hc:c.mode = .returning∨∃x,c.mode = .panicking [⟨x,true,false⟩])(h:Run P mn Stop v (G {c with mode:=.returning } cs)):Run P mn Stop v (G (b.on a []) (c::cs)):=by
 refine Run.ctl Y (g':=G {b.on a []with mode:=.returning } (c::cs)) (fun w=>by simp [G,stepG,stepG.exec,Frame.on,hr]) ?_
 rcases hc with hc|⟨x,hc⟩
 ·refine run_leaveD Y hds hk hf hres hc ?_
  have:({c with mode:=.returning }:Frame)=c:=by cases c;simp only at hc;subst hc;rfl
  rw [this]at h;exact h
 ·exact run_leaveP Y hds hk hf hres hc h
end
section
variable{P:Program}{mn:Who}{Stop:View→Goroutine→Prop}{v:View}{b:Frame}{cs:List Frame}{a:Act}{n:Nat}
theorem run_tail{R:St→View→Prop}{ops:Array Oper}{l:List Nat}{c:Code}{σ:St}{u:View}(hk:b.kind≠.early)(hr:b.roundOf=none)(h:XO P mn none n ops l (SeqQ P mn none n c (fun e σ u=>e = .normal∧R σ u)) σ u)(hf:Fits n σ a)(hb:Bok σ.β u)(hl:(u.union (A0c σ.β)).Le v)
  (hq:∀σ' u' a',R σ' u'→Fits n σ' a'→Bok σ'.β u'→Run P mn Stop (u'.union (A0c σ'.β)) (G (b.on a' []) cs)):Run P mn Stop v (G (b.on a (.inRegion ops l::[.code c])) cs):=by
 refine((h a hf hb) Stop b [.code c] cs hk hr (fun e a' v' hP=>?_)).weaken hl
 obtain⟨σ',u',hQ,hf',hb',hl'⟩:=hP
 cases e with
 | normal=>
  simp only [SeqQ]at hQ
  refine((show XC P mn none n c (fun e σ u=>e = .normal∧R σ u) σ' u' from hQ) a' hf' hb' Stop b [] cs hk hr (fun e a2 v2 hP2=>?_)).weaken hl'
  obtain⟨σ2,u2,⟨rfl,hR⟩,hf2,hb2,hl2⟩:=hP2
  exact(hq _ _ _ hR hf2 hb2).weaken hl2
 | _=>simp only [SeqQ]at hQ;exact absurd hQ.1 sM
end
section
variable{P:Program}{mn:Who}(T:Tab P){rd:Option Nat}{n:Nat}{Q:Exit→St→View→Prop}{ds:List Deferred}{ρ:Regs}{β:A0e}{v:View}{K:St→View→Prop}
 {ops:Array Oper}{i:Nat}{d:Nat}{ty:TypeId}{pos:String}{af:Array Edge}{gu:Option (Nat×Bool)}
theorem XR_at{l:List Oper}{todo:List Nat}{σ:St}(hd:ops.toList.drop i=l)(ht:List.range' i l.length=todo)(h:XR P mn rd n ops i l Q σ v):XO P mn rd n ops todo Q σ v:=ht ▸ h hd
theorem A_neqNil{t t2:TypeId}{y:Operand}{x:Value}{ms:Array (String×TypeId)}{r:Bool}(ho:ops[i]?=some ⟨some d,.binOp .neq t y (.const .nilIface) t2,ty,pos,af,gu⟩)(hw:A0p ops gu ρ=some true)(hn:Nat.blt d n=true)(hy:ρ.val y=some x)(ht:T.und t=some (.interface ms))
  (hx:(r=false∧x = .nilIface)∨(r=true∧∃tx vx,x = .iface tx vx))(h:K ⟨ds,(d,.bool r)::ρ,β⟩ v):XOp P mn rd n ops i Q K ⟨ds,ρ,β⟩ v:=by
 refine A1w ho (A0j hw) (.inr Y) hn fun ev hev hbk=>?_
 have hc:ev (.const .nilIface) = .nilIface:=hev _ _ Y
 rcases hx with ⟨rfl,rfl⟩|⟨rfl,tx,vx,rfl⟩
 ·simp only [execOp,A0a,hev _ _ hy,hc,eqGuard,binOp,Op.equal]
  simp only [Bool.or_true,if_true,Bool.not_true,Bool.false_eq_true,if_false,A0h,A0a]
  unfold Op.equalIn
  simp only [Op.maxDepth,A0a,A1k T ht,A0h,Bool.not_true]
  exact⟨β,v,⟨hbk,Le.refl _⟩,h⟩
 ·simp only [execOp,A0a,hev _ _ hy,hc,eqGuard,binOp,Op.equal]
  simp only [Bool.not_true,Bool.false_eq_true,if_false,A0h,A0a]
  unfold Op.equalIn
  simp only [Op.maxDepth,A0a,A1k T ht,A0h,Bool.not_false]
  exact⟨β,v,⟨hbk,Le.refl _⟩,h⟩
end
section
variable{P:Program}{mn:Who}{v:View}{Stop:View→Goroutine→Prop}
theorem A8i{fop:Operand}{params:Array Tmp}{assign body:Code}{a:Act}{kf:FuncId}{first captured:Array Value}{b:Frame}{k:List Item}{cs:List Frame}(hb:b.kind≠.early)(hr:b.roundOf=none)
  (hf:a.eval fop = .func (.func kf) first captured)(hk:A0i P kf)
  (h:∀r l,v r=none→v l=none→r≠l→∀c:Frame,c.mode = .run→
   (∀(Stop:View→Goroutine→Prop) x u lp,u l=some (true,.loop lp)→lp.state≠.busy→Run P mn Stop (u.set l true (.loop {lp with state:=.exhausted })) (G (b.on ⟨a.tmps,{target:=.collected r,args:=#[] }::a.defers⟩ ((lp.pending.map Item.code).toList++k)) cs)→Run P mn Stop u (G (c.finish x) cs))→
   Run P mn Stop ((v.set r true (.deferred (some []))).set l true (.loop {state:=.ready,pending:=none,fn:=b.fn,tmps:=a.tmps,params:=params,assign:=assign,body:=body,defers:=r })) (G (Frame.enter P kf (first++#[.func (.yield l) #[] #[]]++captured) .normal) (c::cs))) :
  Run P mn Stop v (G (b.on a (.code (.rangeFunc fop params assign body)::k)) cs):=by
 have hbr:∀(c:Act) (its:List Item),({b.on c its with roundOf:=none }:Frame)=b.on c its:=fun c its=>by
  unfold Frame.on
  rw [←hr]
 have hev:(b.on a (.code (.rangeFunc fop params assign body)::k)).eval fop = .func (.func kf) first captured:=by rw [eval_on];exact hf
 let m:Sem (Nat×List Deferred×Next):=(Instr.enterLoop b.fn a.tmps params assign body none) >>= fun p=>(callFunc kf (first++#[.func (.yield p.1) #[] #[]]++captured)) >>= fun nx=>pure (p.1,p.2,nx)
 refine A5s (m:=m) (K:=fun p u=>∃r,v r=none∧v p.1=none∧r≠p.1∧p.2.1=[{target:=.collected r,args:=#[] }]∧p.2.2 = .enter kf (first++#[.func (.yield p.1) #[] #[]]++captured)∧
   u=(v.set r true (.deferred (some []))).set p.1 true (.loop {state:=.ready,pending:=none,fn:=b.fn,tmps:=a.tmps,params:=params,assign:=assign,body:=body,defers:=r })) (E:=fun _ _=>False) rfl ?_ (fun p u hp=>?_) (fun x v' hx=>hx.elim)
 ·simp only [m,A0a]
  unfold Instr.enterLoop
  simp only [A0a]
  intro r hvr
  simp only [A0h,A0a]
  intro l hl
  have hlr:r≠l:=by
   intro e;subst e;simp [View.set]at hl
  have hvl:v l=none:=by
   unfold View.set at hl;rwa [if_neg (fun e=>hlr e.symm)]at hl
  exact A4t hk ⟨r,hvr,hvl,hlr,Y,Y,Y⟩
 ·obtain⟨l,mark,nx⟩:=p
  obtain⟨r,h1,h2,h3,h4,h5,h6⟩:=hp
  simp only at h1 h2 h3 h4 h5 h6
  subst h4 h5 h6
  have hbe:((b.on a (.code (.rangeFunc fop params assign body)::k)).kind==CallKind.early)=false:=by simpa [Frame.on]using hb
  refine⟨G (Frame.enter P kf (first++#[.func (.yield l) #[] #[]]++captured) .normal) (b.on ⟨a.tmps,{target:=.collected r,args:=#[] }::a.defers⟩ (.inRangeFunc l::k)::cs),fun w w' es hrun=>?_,?_⟩
  ·have hr':(b.on a (.code (.rangeFunc fop params assign body)::k)).roundOf=none:=hr
   cases e1:(Instr.enterLoop b.fn a.tmps params assign body none).runT P w #[]with
   | mk r1 es1=>
    cases r1 with
    | halt hh w1=>
     exfalso
     have:m.runT P w #[]=(.halt hh w1,es1):=by
      show(Sem.bind _ _).runT P w #[]=_
      rw [Sem.runT_bind',e1]
     rw [this]at hrun;cases hrun
    | ok p w1=>
     have e2:(callFunc kf (first++#[.func (.yield p.1) #[] #[]]++captured)).runT P w1 es1=(.ok (.enter kf (first++#[.func (.yield p.1) #[] #[]]++captured)) w1,es1):=by
      obtain⟨fn,c,q1,q2,q3⟩:=hk
      unfold callFunc
      simp [q1,q2,q3,Sem.runT,Sem.bind]
     have e3:m.runT P w #[]=(.ok (p.1,p.2,.enter kf (first++#[.func (.yield p.1) #[] #[]]++captured)) w1,es1):=by
      show(Sem.bind _ _).runT P w #[]=_
      rw [Sem.runT_bind',e1]
      show(Sem.bind _ _).runT P w1 es1=_
      rw [Sem.runT_bind',e2]
      rfl
     rw [e3]at hrun
     simp only [Prod.mk.injEq,Result.ok.injEq]at hrun
     obtain⟨⟨⟨hp1,hp2,_⟩,hw⟩,hes⟩:=hrun
     have e4:(callFunc kf (first++#[.func (.yield l) #[] #[]]++captured)).runT P w1 #[]=(.ok (.enter kf (first++#[.func (.yield l) #[] #[]]++captured)) w1,#[]):=by
      obtain⟨fn,c,q1,q2,q3⟩:=hk
      unfold callFunc
      simp [q1,q2,q3,Sem.runT,Sem.bind]
     refine⟨seen P b.fn es1++(seen P b.fn #[]++#[]),?_,fun e he=>?_⟩
     ·have s1:stepG P mn.main (G (b.on a (.code (.rangeFunc fop params assign body)::k)) cs) w=stepG.exec P mn.main true (b.on a (.code (.rangeFunc fop params assign body)::k)) cs none w:=by simp [G,stepG,Frame.on]
      rw [s1]
      unfold stepG.exec
      simp only [show(b.on a (.code (.rangeFunc fop params assign body)::k)).todo = .code (.rangeFunc fop params assign body)::k from Y,show(b.on a (.code (.rangeFunc fop params assign body)::k)).fn=b.fn from Y,
       show(b.on a (.code (.rangeFunc fop params assign body)::k)).tmps=a.tmps from Y,hr',e1]
      unfold stepG.apply
      have e5:∀(fr:Frame),fr.eval fop = .func (.func kf) first captured→(do let d ←resolve fr.eval {callee:=.value fop,args:=#[.const (.func (.yield p.1) #[] #[])],argTypes:=#[] } 0;invoke d.target d.args:Sem Next)=callFunc kf (first++#[.func (.yield p.1) #[] #[]]++captured):=by
       intro fr hfr
       have ha:(#[Operand.const (.func (.yield p.1) #[] #[])]:Array Operand).map fr.eval=#[.func (.yield p.1) #[] #[]]:=by simp [Frame.eval]
       unfold resolve
       simp only [ha,hfr,Deferred.ofValue]
       rfl
      rw [e5 _ (by exact hev)]
      rw [hp1,hp2,hw]at *
      simp only [if_true,e4]
      rw [show(b.on a (.code (.rangeFunc fop params assign body)::k)).kind=b.kind from rfl]at *
      simp only [hbe,Bool.false_eq_true,if_false]
      rw [←hbr ⟨a.tmps,{target:=.collected r,args:=#[] }::a.defers⟩ (.inRangeFunc l::k)]
      rfl
     ·rw [←hes]
      simp only [Array.mem_append]at he
      rcases he with he|he|he
      ·exact mem_seen he
      ·rw [seen_none]at he;exact absurd he sM
      ·exact absurd he sM
  ·refine h r l h1 h2 h3 _ Y fun Stop x u lp hu hns hgo=>?_
   rw [show(b.on ⟨a.tmps,{target:=.collected r,args:=#[] }::a.defers⟩ (.inRangeFunc l::k)).finish x=b.on ⟨a.tmps,{target:=.collected r,args:=#[] }::a.defers⟩ (.endRangeFunc l::k)from rfl]
   refine A5s (m:=Instr.endLoop l) (K:=fun j w=>j=lp.pending∧w=u.set l true (.loop {lp with state:=.exhausted })) (E:=fun _ _=>False) rfl ?_ (fun j w hj=>?_) (fun x v' hx=>hx.elim)
   ·unfold Instr.endLoop Instr.getLoop
    simp only [A0a]
    refine A9h hu Y Y ?_
    rw [A0h,if_neg (by simpa using hns),A0a]
    refine A6t hu Y Y ?_
    exact⟨Y,Y⟩
   ·obtain⟨rfl,rfl⟩:=hj
    refine⟨G (b.on ⟨a.tmps,{target:=.collected r,args:=#[] }::a.defers⟩ ((lp.pending.map Item.code).toList++k)) cs,fun w w' es hrun=>⟨seen P b.fn es++#[],?_,fun e he=>mem_seen (by simpa using he)⟩,hgo⟩
    have h1:stepG P mn.main (G (b.on ⟨a.tmps,{target:=.collected r,args:=#[] }::a.defers⟩ (.endRangeFunc l::k)) cs) w=stepG.exec P mn.main true (b.on ⟨a.tmps,{target:=.collected r,args:=#[] }::a.defers⟩ (.endRangeFunc l::k)) cs none w:=by simp [G,stepG,Frame.on]
    rw [h1]
    unfold stepG.exec
    simp only [show(b.on ⟨a.tmps,{target:=.collected r,args:=#[] }::a.defers⟩ (.endRangeFunc l::k)).todo = .endRangeFunc l::k from Y,hrun]
    rfl
abbrev rdF(f:FuncId)(l:Nat):Frame:={fn:=f,tmps:=#[],todo:=[],defers:=[],mode:=.run,kind:=.normal,roundOf:=some l }
theorem run_round{l:Nat}{f:FuncId}{tmps:Array Value}{assign body:Code}{lp:Loop}(hl:v l=some (true,.loop lp))(hs:lp.state = .ready){c:Frame}{cs:List Frame}
  {M:Act→View→Prop}(ha:wpX P mn (some l) assign (fun e a u=>e = .normal∧u l=some (true,.loop lp)∧M a u) ⟨tmps,[]⟩ v)
  (h:∀a u,u l=some (true,.loop lp)→M a u→(∀(Stop:View→Goroutine→Prop) a' u',u' l=some (true,.loop {lp with state:=.busy })→Run P mn Stop (u'.set l true (.loop {lp with state:=.ready,pending:=none })) (G (c.finish (.bool true)) cs)→Run P mn Stop u' (G ((rdF f l).on a' []) (c::cs)))→
   (∀(Stop:View→Goroutine→Prop) a' its u',u' l=some (true,.loop {lp with state:=.busy })→Run P mn Stop (u'.set l true (.loop {lp with state:=.done,pending:=some .ret })) (G (c.finish (.bool false)) cs)→Run P mn Stop u' (G ((rdF f l).on a' (.code .ret::its)) (c::cs)))→
   Run P mn Stop (u.set l true (.loop {lp with state:=.busy })) (G ((rdF f l).on a [.code body]) (c::cs))) :
  Run P mn Stop v (G (Frame.round l f tmps assign body .normal) (c::cs)):=by
 have henter:Frame.round l f tmps assign body .normal=(rdF f l).on ⟨tmps,[]⟩ [.code assign,.beginRound,.code body]:=by simp [Frame.round,Frame.on,rdF]
 rw [henter]
 refine ha Stop (rdF f l) _ (c::cs) (by simp [rdF]) Y fun e a u ⟨he,hu,hM⟩=>?_
 subst he
 refine A5s (m:=Instr.beginRound l) (K:=fun _ u'=>u'=u.set l true (.loop {lp with state:=.busy })) (E:=fun _ _=>False) rfl ?_ (fun _ u' hu'=>?_) (fun x v' hx=>hx.elim)
 ·unfold Instr.beginRound Instr.getLoop
  simp only [A0a]
  refine A9h hu Y Y ?_
  refine A6t hu Y Y ?_
  simp only [hs]
  rfl
 ·subst hu'
  refine⟨G ((rdF f l).on a [.code body]) (c::cs),fun w w' es hrun=>⟨seen P (rdF f l).fn es++#[],?_,fun e he=>mem_seen (by simpa using he)⟩,?_⟩
  ·have h1:stepG P mn.main (G ((rdF f l).on a (.beginRound::[.code body])) (c::cs)) w=stepG.apply P true ((rdF f l).on a (.beginRound::[.code body])) (c::cs) none (do Instr.beginRound l;pure .skip) w:=by
    simp [G,stepG,stepG.exec,Frame.on,rdF]
   rw [h1]
   have h2:(do Instr.beginRound l;pure .skip:Sem Next).runT P w #[]=(.ok .skip w',es):=by
    show(Sem.bind _ _).runT P w #[]=_
    rw [Sem.runT_bind',hrun]
    rfl
   unfold stepG.apply
   simp only [if_true,h2,show(((rdF f l).on a (.beginRound::[.code body])).kind==CallKind.early)=false from Y,Bool.false_eq_true,if_false]
   rfl
  ·have leave:∀(Stop:View→Goroutine→Prop) (j:Option Code) (a':Act) (its:List Item) (u':View),(j=none∧its=[]∨∃r,j=some .ret∧its = .code .ret::r)→u' l=some (true,.loop {lp with state:=.busy })→
     Run P mn Stop (u'.set l true (.loop {lp with state:=if j.isNone then .ready else .done,pending:=j })) (G (c.finish (.bool j.isNone)) cs)→Run P mn Stop u' (G ((rdF f l).on a' its) (c::cs)):=fun Stop j a' its u' hj hu' hr=>by
    refine A5s (m:=Instr.endRound l j) (K:=fun x w=>x = .bool j.isNone∧w=u'.set l true (.loop {lp with state:=if j.isNone then .ready else .done,pending:=j })) (E:=fun _ _=>False) rfl ?_ (fun x w hx=>?_) (fun x v' hx=>hx.elim)
    ·unfold Instr.endRound Instr.getLoop
     simp only [A0a]
     refine A9h hu' Y Y ?_
     exact A6t hu' Y Y ⟨Y,Y⟩
    ·obtain⟨rfl,rfl⟩:=hx
     refine⟨G (c.finish (.bool j.isNone)) cs,fun w w' es hrun=>⟨seen P (rdF f l).fn es++#[],?_,fun e he=>mem_seen (by simpa using he)⟩,hr⟩
     have h1:stepG P mn.main (G ((rdF f l).on a' its) (c::cs)) w=stepG.exec P mn.main true ((rdF f l).on a' its) (c::cs) none w:=by simp [G,stepG,Frame.on,rdF]
     rw [h1]
     unfold stepG.exec
     rcases hj with ⟨rfl,rfl⟩|⟨r,rfl,rfl⟩
     ·simp only [show((rdF f l).on a' []).todo=[]from Y,show((rdF f l).on a' []).roundOf=some l from Y,hrun]
      rfl
     ·simp only [show((rdF f l).on a' (.code .ret::r)).todo = .code .ret::r from Y,show((rdF f l).on a' (.code .ret::r)).roundOf=some l from Y,hrun]
      rfl
   exact h a u hu hM (fun Stop a' u' hu' hr=>leave Stop none a' [] u' (.inl ⟨Y,Y⟩) hu' hr) fun Stop a' its u' hu' hr=>leave Stop (some .ret) a' _ u' (.inr ⟨its,Y,Y⟩) hu' hr
theorem run_yield{ops:Array Oper}{i:Nat}{rest:List Nat}{d:Nat}{ty:TypeId}{pos:String}{af:Array Edge}{gu:Option (Nat×Bool)}{f:Operand}{args:Array Operand}{ats:Array TypeId}{l:Nat}{xs:List Value}{lp:Loop}{b:Frame}{k:List Item}{cs:List Frame}{a:Act}
  (hb:b.kind≠.early)(ho:ops[i]?=some ⟨some d,.call {callee:=.value f,args:=args,argTypes:=ats },ty,pos,af,gu⟩)(hw:Region.wanted ⟨some d,.call {callee:=.value f,args:=args,argTypes:=ats },ty,pos,af,gu⟩ (yielded ops a.tmps)=true)
  (hf:a.eval f = .func (.yield l) #[] #[])(hxs:args.map a.eval=xs.toArray)(hl:v l=some (true,.loop lp))(hn:xs.length=lp.params.size)
  (h:∀c:Frame,c.mode = .run→(∀x,c.finish x=b.on (a.put (some d) x) (.inRegion ops rest::k))→Run P mn Stop v (G (Frame.round l lp.fn ((lp.params.zip xs.toArray).foldl (fun tmps (t,a)=>tmps.setIfInBounds t a) lp.tmps) lp.assign lp.body .normal) (c::cs))) :
  Run P mn Stop v (G (b.on a (.inRegion ops (i::rest)::k)) cs):=by
 have hk':((b.on a (.inRegion ops (i::rest)::k)).kind==CallKind.early)=false:=by simpa [Frame.on]using hb
 have hst:=fun w=>A2a (P:=P) (mn:=mn) (b:=b) (k:=k) (cs:=cs) (w:=w) (rest:=rest) ho hw (.inr Y)
 refine A5s (m:=execOp a.eval ⟨some d,.call {callee:=.value f,args:=args,argTypes:=ats },ty,pos,af,gu⟩) (K:=fun nx u=>nx = .round l lp.fn ((lp.params.zip xs.toArray).foldl (fun tmps (t,a)=>tmps.setIfInBounds t a) lp.tmps) lp.assign lp.body∧u=v) (E:=fun _ _=>False) Y ?_ (fun nx u hnx=>?_) (fun x v' hx=>hx.elim)
 ·unfold execOp
  simp only [resolve,Deferred.ofValue,hf,hxs,A0a,A0h,invoke]
  have he:(#[]++xs.toArray:Array Value)=xs.toArray:=by simp
  rw [he]
  unfold Instr.yield Instr.getLoop
  simp only [A0a]
  refine A9h hl Y Y ?_
  have:¬(xs.toArray.size≠lp.params.size):=by simpa using hn
  simp only [A0h]
  rw [if_neg this]
  exact⟨Y,Y⟩
 ·obtain⟨rfl,rfl⟩:=hnx
  refine⟨_,fun w w' es hrun=>⟨seen P b.fn es++#[],?_,fun e he=>mem_seen (by simpa using he)⟩,h (b.on a (.inRegion ops (i::rest)::k)) Y fun x=>A2g b a ops i rest k _ x ho⟩
  have hst:=hst w
  rw [hst]
  unfold stepG.apply
  simp only [if_true,hrun,hk',Bool.false_eq_true,if_false]
  rfl
end
class Abs(P:outParam Program)(mn:outParam Who)(R:View→Goroutine→Prop):Prop where
 run:∀{v:View} {g:Goroutine},Run P mn R v g→R v g
theorem Abs.le{P:Program}{mn:Who}{R:View→Goroutine→Prop}[A:Abs P mn R]{u v:View}{g:Goroutine}(h:R u g)(hl:u.Le v):R v g:=A.run (.stop hl h)
instance Abs.sil {P:Program} {mn:Who} {R:View→Goroutine→Prop} [A:Abs P mn R] {v:View}:Sil P mn.main (R v):=⟨fun hs h r=>A.run (Run.ctl hs h (.stop (Le.refl _) r))⟩
instance {P:Program} {mn:Who} {Stop:View→Goroutine→Prop}:Abs P mn (Run P mn Stop):=⟨fun h=>h.mono fun _ _ h=>h⟩
section
variable{P:Program}{mn:Who}{R:View→Goroutine→Prop}[A:Abs P mn R]{n:Nat}{b:Frame}{k:List Item}{cs:List Frame}{ρ:Regs}{v:View}{ds:List Deferred}{β:A0e}
variable{ops:Array Oper}{i:Nat}{rest:List Nat}{d:Nat}{op:Op}{ty:TypeId}{pos:String}{af:Array Edge}{gu:Option (Nat×Bool)}
include A
theorem R_code{c:Code}{Q:Exit→St→View→Prop}(hk:b.kind≠.early)(hb:Bok β v)(h:XC P mn b.roundOf n c Q ⟨ds,ρ,β⟩ v)
  (hq:∀e σ u,Q e σ u→Bok σ.β u→e = .normal∧XG (R (u.union (A0c σ.β))) n b k cs σ.ds σ.ρ):XG (R (v.union (A0c β))) n b (.code c::k) cs ds ρ:=fun a hf=>by
 refine A.run (h a ⟨hf.size,hf.defers,hf.get⟩ hb R b k cs hk Y fun e a' w hQ=>?_)
 obtain⟨σ,u,h1,h2,h3,h4⟩:=hQ
 obtain⟨rfl,h5⟩:=hq e σ u h1 h3
 exact .stop h4 (h5 a' ⟨h2.size,h2.defers,h2.get⟩)
theorem R_xop(hk:b.kind≠.early)(hb:Bok β v)(h:XOp P mn b.roundOf n ops i (fun _ _ _=>False) (fun σ u=>Bok σ.β u→XG (R (u.union (A0c σ.β))) n b (.inRegion ops rest::k) cs σ.ds σ.ρ) ⟨ds,ρ,β⟩ v) :
  XG (R (v.union (A0c β))) n b (.inRegion ops (i::rest)::k) cs ds ρ:=fun a hf=>by
 refine A.run ?_
 obtain⟨o,ho,hw,hd,hs⟩:=h a ⟨hf.size,hf.defers,hf.get⟩ hb
 have key:∀{a' w},KP n (fun σ u=>Bok σ.β u→XG (R (u.union (A0c σ.β))) n b (.inRegion ops rest::k) cs σ.ds σ.ρ) a' w→Run P mn R w (G (b.on a' (.inRegion ops rest::k)) cs):=fun⟨σ,u,hx,h2,h3,h4⟩=>
  .stop h4 (hx h3 _ ⟨h2.size,h2.defers,h2.get⟩)
 have hst:=fun w=>A2a (P:=P) (mn:=mn) (b:=b) (k:=k) (cs:=cs) (w:=w) (rest:=rest) ho hw hd
 have hk':((b.on a (.inRegion ops (i::rest)::k)).kind==CallKind.early)=false:=by simpa [Frame.on]using hk
 have hfin:∀x,(b.on a (.inRegion ops (i::rest)::k)).finish x=b.on (a.put o.dst x) (.inRegion ops rest::k):=fun x=>A2g b a ops i rest k o x ho
 refine A5s (m:=execOp a.eval o) Y hs (fun nx v' hK=>?_) (fun x v' hE=>by obtain⟨_,_,h,_⟩:=hE;exact h.elim)
 cases nx with
 | value x=>
  refine⟨G (b.on (a.put o.dst x) (.inRegion ops rest::k)) cs,fun w w' es hrun=>⟨seen P b.fn es++#[],?_,fun e he=>mem_seen (by simpa using he)⟩,key hK⟩
  rw [hst w,←hfin x]
  unfold stepG.apply
  simp only [if_true,hrun,hk',Bool.false_eq_true,if_false]
  rfl
 | skip=>
  refine⟨G (b.on (a.put o.dst undef) (.inRegion ops rest::k)) cs,fun w w' es hrun=>⟨seen P b.fn es++#[],?_,fun e he=>mem_seen (by simpa using he)⟩,key hK⟩
  rw [hst w,←hfin undef]
  unfold stepG.apply
  simp only [if_true,hrun,hk',Bool.false_eq_true,if_false]
  rfl
 | enter f args=>
  refine⟨G (Frame.enter P f args .normal) (b.on a (.inRegion ops (i::rest)::k)::cs),fun w w' es hrun=>⟨seen P b.fn es++#[],?_,fun e he=>mem_seen (by simpa using he)⟩,?_⟩
  ·rw [hst w]
   unfold stepG.apply
   simp only [if_true,hrun,hk',Bool.false_eq_true,if_false]
   rfl
  ·refine hK _ _ cs Y fun e v'' hR=>?_
   cases e with
   | ret x=>show Run _ _ _ _ (G (Frame.finish _ _) _);rw [hfin x];exact key hR
   | pan ch=>obtain⟨_,_,h,_⟩:=hR;exact h.elim
 | round l f tmps assign body=>
  refine⟨G (Frame.round l f tmps assign body .normal) (b.on a (.inRegion ops (i::rest)::k)::cs),fun w w' es hrun=>⟨seen P b.fn es++#[],?_,fun e he=>mem_seen (by simpa using he)⟩,?_⟩
  ·rw [hst w]
   unfold stepG.apply
   simp only [if_true,hrun,hk',Bool.false_eq_true,if_false]
   rfl
  ·refine hK.2 _ _ cs Y fun e v'' hR=>?_
   cases e with
   | ret x=>show Run _ _ _ _ (G (Frame.finish _ _) _);rw [hfin x];exact key hR
   | pan ch=>obtain⟨_,_,h,_⟩:=hR;exact h.elim
 | defer d=>
  obtain⟨hrd,hK⟩:=hK
  refine⟨G (b.on ({a with defers:=d::a.defers }.put o.dst undef) (.inRegion ops rest::k)) cs,fun w w' es hrun=>⟨seen P b.fn es++#[],?_,fun e he=>mem_seen (by simpa using he)⟩,key hK⟩
  have hf2:=A2g b {a with defers:=d::a.defers } ops i rest k o undef ho
  rw [hst w,←hf2]
  unfold stepG.apply
  simp only [if_true,hrun,hk',Bool.false_eq_true,if_false]
  rfl
 | _=>exact hK.elim
theorem R_rangeFunc{fop:Operand}{params:Array Tmp}{assign body:Code}{kf:FuncId}{first captured:Array Value}(hk:b.kind≠.early)(hr:b.roundOf=none)(hf:ρ.val fop=some (.func (.func kf) first captured))(hB:A0i P kf)
  (h:∀a r l,Fits n ⟨ds,ρ,[]⟩ a→v r=none→v l=none→r≠l→∀c:Frame,c.mode = .run→
   (∀(R':View→Goroutine→Prop) (_:Abs P mn R') x u lp,u l=some (true,.loop lp)→lp.state≠.busy→XG (R' (u.set l true (.loop {lp with state:=.exhausted }))) n b ((lp.pending.map Item.code).toList++k) cs ({target:=.collected r,args:=#[] }::ds) ρ→R' u (G (c.finish x) cs))→
   R ((v.set r true (.deferred (some []))).set l true (.loop {state:=.ready,pending:=none,fn:=b.fn,tmps:=a.tmps,params:=params,assign:=assign,body:=body,defers:=r })) (G (Frame.enter P kf (first++#[.func (.yield l) #[] #[]]++captured) .normal) (c::cs))) :
  XG (R v) n b (.code (.rangeFunc fop params assign body)::k) cs ds ρ:=fun a hfit=>by
 refine A.run (A8i hk hr (A0k hfit _ _ hf) hB fun r l h1 h2 h3 c hc hend=>.stop (Le.refl _) (h a r l hfit h1 h2 h3 c hc fun R' A' x u lp hu hs hx=>?_))
 exact A'.run (hend R' x u lp hu hs (.stop (Le.refl _) (hx _ ⟨hfit.size,by show _::_=_::_;rw [hfit.defers],hfit.get⟩)))
theorem R_yield{f:Operand}{args:Array Operand}{ats:Array TypeId}{l:Nat}{xs:List Value}{lp:Loop}(hk:b.kind≠.early)(ho:ops[i]?=some ⟨some d,.call {callee:=.value f,args:=args,argTypes:=ats },ty,pos,af,gu⟩)(hw:A0p ops gu ρ=some true)(hn:Nat.blt d n=true)
  (hf:ρ.val f=some (.func (.yield l) #[] #[]))(hxs:A2s ρ.val args.toList=some xs)(hl:v l=some (true,.loop lp))(hz:xs.length=lp.params.size)
  (h:∀c:Frame,c.mode = .run→(∀(R':Goroutine→Prop) x,XG R' n b (.inRegion ops rest::k) cs ds ((d,x)::ρ)→R' (G (c.finish x) cs))→
   R v (G (Frame.round l lp.fn ((lp.params.zip xs.toArray).foldl (fun tmps (t,a)=>tmps.setIfInBounds t a) lp.tmps) lp.assign lp.body .normal) (c::cs))) :
  XG (R v) n b (.inRegion ops (i::rest)::k) cs ds ρ:=fun a hfit=>by
 have ha:args.map a.eval=xs.toArray:=Array.toList_inj.1 (by simpa using A2c (A0k hfit) hxs)
 refine A.run (run_yield hk ho (A0m (o:=⟨some d,.call {callee:=.value f,args:=args,argTypes:=ats },ty,pos,af,gu⟩) hfit (A0j hw)) (A0k hfit _ _ hf) ha hl hz fun c hc hfin=>.stop (Le.refl _) (h c hc fun R' x hx=>?_))
 rw [hfin x]
 exact hx _ (A0x hfit (show A2p n (some d)=true from hn))
theorem R_round{l:Nat}{f:FuncId}{tmps:Array Value}{assign body:Code}{lp:Loop}(hl:v l=some (true,.loop lp))(hs:lp.state = .ready){c:Frame}{m:Nat}{Q:Exit→St→View→Prop}(hb:Bok β v)
  (hfit:Fits m ⟨[],ρ,β⟩ ⟨tmps,[]⟩)(ha:XC P mn (some l) m assign Q ⟨[],ρ,β⟩ v)
  (h:∀e σ u,Q e σ u→Bok σ.β u→e = .normal∧σ.ds=[]∧u l=some (true,.loop lp)∧
   ((∀(R':View→Goroutine→Prop) (_:Abs P mn R') ds' ρ' u',u' l=some (true,.loop {lp with state:=.busy })→R' (u'.set l true (.loop {lp with state:=.ready,pending:=none })) (G (c.finish (.bool true)) cs)→XG (R' u') m (rdF f l) [] (c::cs) ds' ρ')→
   (∀(R':View→Goroutine→Prop) (_:Abs P mn R') ds' ρ' its u',u' l=some (true,.loop {lp with state:=.busy })→R' (u'.set l true (.loop {lp with state:=.done,pending:=some .ret })) (G (c.finish (.bool false)) cs)→XG (R' u') m (rdF f l) (.code .ret::its) (c::cs) ds' ρ')→
    XG (R ((u.union (A0c σ.β)).set l true (.loop {lp with state:=.busy }))) m (rdF f l) [.code body] (c::cs) [] σ.ρ)) :
  R (v.union (A0c β)) (G (Frame.round l f tmps assign body .normal) (c::cs)):=by
 refine A.run (run_round (M:=fun a w=>∃e σ u,Q e σ u∧Fits m σ a∧Bok σ.β u∧(u.union (A0c σ.β)).Le w) (lp:=lp) ?_ hs (A4m (ha _ hfit hb) fun e a w ⟨σ,u,h1,h2,h3,h4⟩=>?_) fun a w hw ⟨e,σ,u,h1,h2,h3,h4⟩ k1 k2=>?_)
 ·exact A2t hl
 ·obtain⟨rfl,_,h5,_⟩:=h e σ u h1 h3
  exact⟨w,Le.refl _,Y,h4 _ _ (A2t h5),.normal,σ,u,h1,h2,h3,h4⟩
 ·obtain⟨rfl,h5,h6,h7⟩:=h e σ u h1 h3
  have h8:=h7 (fun R' A' ds' ρ' u' hu hr a' _=>A'.run (k1 R' a' u' hu (.stop (Le.refl _) hr))) (fun R' A' ds' ρ' its u' hu hr a' _=>A'.run (k2 R' a' its u' hu (.stop (Le.refl _) hr)))
  refine .stop (u:=(u.union (A0c σ.β)).set l true (.loop {lp with state:=.busy })) (fun b' z hz=>?_) (h8 a ⟨h2.size,by rw [h2.defers,h5],h2.get⟩)
  unfold View.set at hz⊢
  split
  ·rename_i e;rw [if_pos e]at hz;exact hz
  ·rename_i e;rw [if_neg e]at hz;exact h4 _ _ hz
theorem R_collected{r:Nat}(hr:v r=some (true,.deferred (some [])))(h:XB (R (v.set r true (.deferred none))) n b k cs ds ρ):XB (R v) n b k cs ({target:=.collected r,args:=#[] }::ds) ρ:=fun a hf=>by
 refine A.run (A8j (r:=r) (ds:=ds) Y hf.defers hr (.stop (Le.refl _) ?_))
 exact h ⟨a.tmps,ds⟩ ⟨hf.size,Y,hf.get⟩
end
section
variable{P:Program}{mn:Who}(T:Tab P){rd:Option Nat}{n:Nat}{Q:Exit→St→View→Prop}{ds:List Deferred}{ρ:Regs}{β:A0e}{v:View}{K:St→View→Prop}
 {ops:Array Oper}{i:Nat}{d:Nat}{ty:TypeId}{pos:String}{af:Array Edge}{gu:Option (Nat×Bool)}
theorem A_clear{t t' e:TypeId}{y:Operand}{b off len cap:Nat}{z:Value}{c:Array Value}{β':A0e}(ho:ops[i]?=some ⟨none,.call {callee:=.builtin .clear,args:=#[y],argTypes:=#[t] },ty,pos,af,gu⟩)(hw:A0p ops gu ρ=some true)
  (hy:ρ.val y=some (.slice (some ⟨b,off,none⟩) (len+1) cap))(ht:T.und t=some (.slice e))(hz:T.zer e=some z)(hone:z.cells.toList.all A2k=true)(hb:InB b c t' β)(hoff:off+(len+1)*z.cells.size≤c.size)
  (hset:SetB b (A0z c off (Builtin.zeroCells z.cells (len+1)).toList) β β')(h:K ⟨ds,ρ,β'⟩ v):XOp P mn rd n ops i Q K ⟨ds,ρ,β⟩ v:=by
 refine A1w ho (A0j hw) (.inr Y) Y fun ev hev hbk=>?_
 obtain⟨hbk',c₀,t₀,hin,hv⟩:=A8g hbk hset
 have hcc:c₀=c∧t₀=t':=by
  have h1:=A0q (v:=v) hbk hin
  have h2:=A0q (v:=v) hbk hb
  rw [h1]at h2
  simp only [Option.some.injEq,Prod.mk.injEq,Obj.cells.injEq]at h2
  exact⟨h2.2.1,h2.2.2.1⟩
 obtain⟨rfl,rfl⟩:=hcc
 have hall:(Builtin.zeroCells z.cells (len+1)).toList.all A2k=true:=by
  refine List.all_eq_true.2 fun x hx=>?_
  rw [Array.mem_toList_iff]at hx
  unfold Builtin.zeroCells at hx
  obtain⟨j,hj,rfl⟩:=Array.mem_map.1 hx
  have hlt:j<(len+1)*z.cells.size:=by simpa using hj
  have hpos:0<z.cells.size:=by
   rcases Nat.eq_zero_or_pos z.cells.size with h0|h0
   ·rw [h0]at hlt;simp at hlt
   ·exact h0
  have hm:j % z.cells.size<z.cells.size:=Nat.mod_lt _ hpos
  rw [getElem!_pos z.cells _ hm]
  exact List.all_eq_true.1 hone _ sM
 unfold execOp
 simp only [resolve,A0a,A0h,invoke,builtin]
 have h0:(#[y]:Array Operand).map ev=#[.slice (some ⟨b,off,none⟩) (len+1) cap]:=by simp [hev _ _ hy]
 rw [h0]
 unfold Builtin.clear_
 simp only [List.getElem?_toArray,List.getElem?_cons_zero,A0a,A1k T ht,A8b T hz]
 refine A3q (off:=off) (c:=c₀) (e:=t₀) (j:=0) hall (A0q hbk hin) (by rw [Array.length_toList,A7q];omega) ?_
 refine⟨β',v,⟨hbk',?_⟩,h⟩
 rw [hv]
 exact Le.refl _
end
section
variable{P:Program}{mn:Who}(T:Tab P){rd:Option Nat}{n:Nat}{Q:Exit→St→View→Prop}{ds:List Deferred}{ρ:Regs}{β:A0e}{v:View}{K:St→View→Prop}
 {ops:Array Oper}{i:Nat}{d:Nat}{ty:TypeId}{pos:String}{af:Array Edge}{gu:Option (Nat×Bool)}
section
variable{S:List Rec}{done:List Nat}{ms:List Nat}{v0:View}{todo:List Nat}
theorem S_slice_hm{t e:TypeId}{y z1 z2:Operand}{a:Option Addr}{len cap h' m sz:Nat}{k1 k2:IntKind}(ho:ops[i]?=some ⟨some d,.slice t y none (some z1) (some z2),ty,pos,af,gu⟩)(hw:A0p ops gu ρ=some true)(hn:Nat.blt d n=true)(hB:A9k ops ms done i=true)
  (hy:ρ.val y=some (.slice a len cap))(ht:T.und t=some (.slice e))(hs:T.siz e=some sz)(hhi:ρ.val z1=some (.int k1 h'))(hmx:ρ.val z2=some (.int k2 m))(h3:m≤cap)(h2:h'≤m)
  (h:XS P mn n ops ms v0 Q todo S (i::done) ⟨ds,(d,.slice (if m=0 then a else a.map (·.add (0*sz))) (h'-0) (m-0))::ρ,β⟩ v):XS P mn n ops ms v0 Q (i::todo) S done ⟨ds,ρ,β⟩ v:=
 A5d (vq:=fun _=>none) (x:=.slice (if m=0 then a else a.map (·.add (0*sz))) (h'-0) (m-0)) ho hn hB (fun a hf=>.inl ⟨A0m hf (A0j hw),fun u _=>by
  unfold QAt execOp
  simp only [Option.map_none,Option.map_some,Instr.sliceAt,Instr.slice,Instr.sliceBounds,A0k hf _ _ hy,A0k hf _ _ hhi,A0k hf _ _ hmx,A0a,A0h,A1k T ht]
  refine A7g h3 ?_
  refine A7g h2 ?_
  simp only [A4f T hs]
  exact⟨Le.refl _,trivial⟩⟩) (fun _ _ b x e=>by cases e) (B1m fun b x e=>by cases e) h
end
theorem row_cell{a:Option Addr}{xs:List Value}{j:Nat}{x:Value}(h:RowAt v a xs)(hx:xs[j]?=some x):∃b off p c e f,a=some ⟨b,off,none⟩∧v b=some (p,.cells c e f)∧c[off+j]?=some x:=by
 rcases h with rfl|⟨b,off,p,c,e,f,h1,h2,_,h4⟩
 ·simp at hx
 ·exact⟨b,off,p,c,e,f,h1,h2,h4 _ _ hx⟩
end
section
variable{P:Program}{mn:Who}(T:Tab P){rd:Option Nat}{n:Nat}{Q:Exit→St→View→Prop}{ds:List Deferred}{ρ:Regs}{β:A0e}{v:View}{K:St→View→Prop}
 {ops:Array Oper}{i:Nat}{d:Nat}{ty:TypeId}{pos:String}{af:Array Edge}{gu:Option (Nat×Bool)}
theorem A_appendB{t t' e e':TypeId}{k by_ m len cap cap2:Nat}{y y2:Operand}{z:Value}{a a2:Option Addr}{cs xs:List Value}(ho:ops[i]?=some ⟨some d,.call {callee:=.builtin .append,args:=#[y,y2],argTypes:=#[t,t'] },ty,pos,af,gu⟩)(hw:A0p ops gu ρ=some true)(hn:Nat.blt d n=true)
  (hy:ρ.val y=some (.slice a len cap))(hy2:ρ.val y2=some (.slice a2 m cap2))
  (ht:T.und t=some (.slice e))(ht':T.und t'=some (.slice e'))(hs:T.siz e=some k)(hby:T.byt e=some by_)(hz:T.zer e=some z)(hzs:z.cells.size=k)
  (hr1:Bok β v→RowAt (v.union (A0c β)) a cs)(hl1:cs.length=len*k)(hr2:Bok β v→RowAt (v.union (A0c β)) a2 xs)(hxl:xs.length=m*k)(hc:cap<len+m)
  (hb:(2*(len+m)+768)*by_≤2^48)(hp:0<by_)
  (h:∀b c cap',OwnS e k [(b,c,e)] (some ⟨b,0,none⟩) (len+m) cap' (cs++xs)→K ⟨ds,(d,.slice (some ⟨b,0,none⟩) (len+m) cap')::ρ,(b,c,e)::β⟩ v):XOp P mn rd n ops i Q K ⟨ds,ρ,β⟩ v:=by
 refine A1w ho (A0j hw) (.inr Y) hn fun ev hev hbk=>?_
 simp only [execOp,resolve,show(#[y,y2]:Array Operand).map ev=#[ev y,ev y2]from by simp,hev _ _ hy,hev _ _ hy2,A0a,A0h,invoke,builtin]
 refine A8f T ht ht' hs hby hz hzs (hr1 hbk) hl1 (hr2 hbk) hxl hc hb hp fun r cap' c hr hc1 hc2 hc3=>?_
 obtain⟨h5,h6⟩:=A7m (c:=c) (t:=e) hbk hr
 exact⟨(r,c,e)::β,v,⟨h5,h6⟩,h r c cap' (.box (by rw [List.length_append,hl1,hxl,Nat.add_mul]) hc1 hc2 hc3)⟩
end
end Go.Pal
end
section
namespace Go.Pal.Mu
open Go Go.Conc Go.Pal View
open Go.ConcN (sumTo upd sumTo_upd upd_ne upd_same sumTo_congr le_sumTo)
structure OnB(B:Nat)(o:Obj)(w w':World):Prop where
 tape:w'.tape=w.tape
 output:w'.output=w.output
 os:SameOs w.os w'.os
 size:w'.heap.size=w.heap.size
 here:w'.heap[B]?=some o
 else_:∀b,b≠B→w'.heap[b]?=w.heap[b]?
theorem OnB.same{B:Nat}{o:Obj}{w:World}(h:w.heap[B]?=some o):OnB B o w w:=⟨Y,Y,SameOs.refl _,Y,h,fun _ _=>rfl⟩
theorem OnB.set{B off:Nat}{c:Array Value}{t:TypeId}{fr:Nat×Nat}{w:World}(v:Value)(h:w.heap[B]?=some (.cells c t fr)):OnB B (.cells (c.setIfInBounds off v) t fr) w (w.setCell ⟨B,off,none⟩ v):=by
 refine⟨Y,Y,.refl _,?_,?_,fun b hb=>?_⟩
 ·simp [World.setCell]
 ·simp only [World.setCell,Array.getElem?_modify,if_true,h]
  rfl
 ·simp only [World.setCell,Array.getElem?_modify]
  rw [if_neg (Ne.symm hb)]
theorem cell_of{w:World}{B off:Nat}{c:Array Value}{t:TypeId}{fr:Nat×Nat}(h:w.heap[B]?=some (.cells c t fr)):w.cell? ⟨B,off,none⟩=c[off]?:=by simp [World.cell?,h]
theorem thaw_of{w:World}{B off:Nat}{c:Array Value}{t:TypeId}(h:w.heap[B]?=some (.cells c t (0,0))):w.frozen? ⟨B,off,none⟩=false:=by simp [World.frozen?,h]
def BkE(B:Nat)(e:Event):Prop:=e=mkE .disable∨e=mkE .enable∨∃off wr,e=⟨.cell ⟨B,off,none⟩,wr,true⟩
theorem bk_dis{B:Nat}:∀e∈(#[mkE .disable]:Array Event),BkE B e:=by intro e he;simp at he;exact .inl he
theorem bk_en{B:Nat}:∀e∈(#[mkE .enable]:Array Event),BkE B e:=by intro e he;simp at he;exact .inr (.inl he)
theorem bk_r{B off:Nat}:∀e∈(#[⟨.cell ⟨B,off,none⟩,false,true⟩]:Array Event),BkE B e:=by intro e he;simp at he;exact .inr (.inr ⟨_,_,he⟩)
theorem bk_w{B off:Nat}:∀e∈(#[⟨.cell ⟨B,off,none⟩,true,true⟩]:Array Event),BkE B e:=by intro e he;simp at he;exact .inr (.inr ⟨_,_,he⟩)
theorem bk_rw{B off:Nat}:∀e∈(#[⟨.cell ⟨B,off,none⟩,false,true⟩,⟨.cell ⟨B,off,none⟩,true,true⟩]:Array Event),BkE B e:=by intro e he;simp at he;rcases he with rfl|rfl<;>exact .inr (.inr ⟨_,_,Y⟩)
theorem bk_sem{B off:Nat}:∀e∈semEvents ⟨B,off,none⟩,BkE B e:=by
 intro e he
 simp [semEvents]at he
 rcases he with rfl|rfl|rfl|rfl
 ·exact .inl Y
 ·exact .inr (.inr ⟨_,_,Y⟩)
 ·exact .inr (.inr ⟨_,_,Y⟩)
 ·exact .inr (.inl Y)
theorem deaf_sem{a:Addr}{d:Nat}:deafBehind d (semEvents a)=d:=by simp [deafBehind,semEvents]
theorem deaf_rw{B off d:Nat}:deafBehind d #[⟨.cell ⟨B,off,none⟩,false,true⟩,⟨.cell ⟨B,off,none⟩,true,true⟩]=d:=by simp [deafBehind]
theorem deaf_r{B off d:Nat}{wr:Bool}:deafBehind d #[⟨.cell ⟨B,off,none⟩,wr,true⟩]=d:=by simp [deafBehind]
theorem deaf_nil{d:Nat}:deafBehind d #[]=d:=by simp [deafBehind]
theorem deaf_dis{d:Nat}:deafBehind d #[mkE .disable]=d+1:=by simp [deafBehind]
theorem deaf_en{d:Nat}:deafBehind d #[mkE .enable]=d-1:=by simp [deafBehind]
section
variable{P:Program}{A:Par}{base:Nat}{K:View→Goroutine→Prop}
variable{n j:Nat}{q:Wk}{N:Nat}{b:Frame}{its:List Item}{cs:List Frame}{ds:List Deferred}{ρ:Regs}{v:View}
theorem F_sub{R:Goroutine→Prop}{ρ0:Regs}(h:XG R N b its cs ds ρ0)(hs:∀t x,ρ0.get t=some x→ρ.get t=some x):XG R N b its cs ds ρ:=fun a hf=>h a ⟨hf.size,hf.defers,fun t x e=>hf.get t x (hs t x e)⟩
def RIn(ρ:Regs):Regs→Prop
 | []=>True
 | (t,x)::l=>ρ.get t=some x∧RIn ρ l
theorem rin_get{ρ:Regs}:∀{l:Regs},RIn ρ l→∀t x,Regs.get l t=some x→ρ.get t=some x
 | [],_,_,_,h=>by simp [Regs.get]at h
 | (t',y)::l,⟨h1,h2⟩,t,x,h=>by
  simp only [Regs.get]at h
  cases hb:Nat.beq t' t with
  | true=>
   rw [hb]at h
   have:=Nat.eq_of_beq_eq_true hb
   subst this
   simp only [cond_true,Option.some.injEq]at h
   subst h;exact h1
  | false=>rw [hb]at h;exact rin_get h2 t x h
theorem F_in{R:Goroutine→Prop}(ρ0:Regs)(h:XG R N b its cs ds ρ0)(hs:RIn ρ ρ0):XG R N b its cs ds ρ:=F_sub h (rin_get hs)
theorem vB{e:Option Value}{a b:Bool}(h:a=b)(he:e=some (.bool a)):e=some (.bool b):=by rw [←h];exact he
theorem vI{e:Option Value}{k:IntKind}{a b:Int}(h:a=b)(he:e=some (.int k a)):e=some (.int k b):=by rw [←h];exact he
variable{k:List Item}{ops:Array Oper}{i:Nat}{rest:List Nat}{d:Nat}{op:Op}{ty:TypeId}{pos:String}{af:Array Edge}{gu:Option (Nat×Bool)}{a:Nat}{L:List Nat}{p p':Mp}
theorem mayWake_on{o:Oper}{f:FuncId}{fn:Func}{xs:Array Operand}{ats:Array TypeId}{c:Act}
  (ho:ops[i]?=some o)(hop:o.op = .call {callee:=.value (.func f),args:=xs,argTypes:=ats })(hf:P.funcs[f]?=some fn)(hb:fn.body.isNone=true):mayWake P (G (b.on c (.inRegion ops (i::rest)::k)) cs)=true:=by
 have h2:fn.body=none:=by simpa using hb
 have ef:(b.on c (.inRegion ops (i::rest)::k)).eval (.func f) = .func (.func f) #[] #[]:=rfl
 simp [mayWake,G,Frame.on,ho,hop]at ef⊢
 simp [ef,hf,h2]
end
end Go.Pal.Mu
end
section
namespace Go.Pal
open Go Go.Conc View
section
variable{P:Program}{mn:Who}(T:Tab P){R:View→Goroutine→Prop}[A:Abs P mn R]{n:Nat}{b:Frame}{k:List Item}{cs:List Frame}{ρ:Regs}{v:View}{ds:List Deferred}{β:A0e}
def Then(R:View→Goroutine→Prop)(n:Nat)(b:Frame)(k:List Item)(cs:List Frame)(e:Exit)(σ:St)(u:View):Prop:=e = .normal∧(Bok σ.β u→XG (R (u.union (A0c σ.β))) n b k cs σ.ds σ.ρ)
theorem A0y{R:View→Goroutine→Prop}{n:Nat}{b:Frame}{k:List Item}{cs:List Frame}{ds:List Deferred}{ρ:Regs}{β:A0e}{v:View}(h:Bok β v→XG (R (v.union (A0c β))) n b k cs ds ρ):Then R n b k cs .normal ⟨ds,ρ,β⟩ v:=⟨Y,h⟩
theorem R_co{c:Code}(hk:b.kind≠.early)(hb:Bok β v)(h:XC P mn b.roundOf n c (Then R n b k cs) ⟨ds,ρ,β⟩ v):XG (R (v.union (A0c β))) n b (.code c::k) cs ds ρ:=
 R_code hk hb h fun _ _ _ hQ hB=>⟨hQ.1,hQ.2 hB⟩
theorem R_co0{c:Code}(hk:b.kind≠.early)(h:XC P mn b.roundOf n c (Then R n b k cs) ⟨ds,ρ,[]⟩ v):XG (R v) n b (.code c::k) cs ds ρ:=by
 have:=R_co (R:=R) hk (A4c v) h
 rwa [show v.union (A0c [])=v from by funext x;unfold View.union;cases v x<;>rfl]at this
theorem R_mid{c:Code}(ρ0:Regs)(hk:b.kind≠.early)(h:XC P mn b.roundOf n c (fun e σ u=>e = .normal∧u=v∧σ.ds=ds∧Mu.RIn σ.ρ ρ0) ⟨ds,ρ,[]⟩ v)(hq:XG (R v) n b k cs ds ρ0):XG (R v) n b (.code c::k) cs ds ρ:=by
 have e0:v.union (A0c [])=v:=by funext x;unfold View.union;cases v x<;>rfl
 have:=R_code (R:=R) (β:=[]) (k:=k) (cs:=cs) hk (A4c v) h fun e σ u hQ hB=>?_
 ·rwa [e0]at this
 ·obtain⟨h1,rfl,h3,h4⟩:=hQ
  refine⟨h1,?_⟩
  rw [h3]
  exact Mu.F_in ρ0 (fun a hf=>Abs.le (hq a hf) (A0g _ _)) h4
include A in
theorem R_less{its:List Item}(h:XG (R v) n b its cs ds ρ):XG (R (v.union (A0c β))) n b its cs ds ρ:=fun a hf=>Abs.le (h a hf) (A0g _ _)
include A in
theorem R_leV{u:View}{its:List Item}(hl:u.Le v)(h:XG (R u) n b its cs ds ρ):XG (R v) n b its cs ds ρ:=fun a hf=>Abs.le (h a hf) hl
def ThenO(R:View→Goroutine→Prop)(n:Nat)(b:Frame)(k:List Item)(cs:List Frame)(σ:St)(u:View):Prop:=Bok σ.β u→XG (R (u.union (A0c σ.β))) n b k cs σ.ds σ.ρ
theorem A2n{R:View→Goroutine→Prop}{n:Nat}{b:Frame}{k:List Item}{cs:List Frame}{ds:List Deferred}{ρ:Regs}{β:A0e}{v:View}(h:Bok β v→XG (R (v.union (A0c β))) n b k cs ds ρ):ThenO R n b k cs ⟨ds,ρ,β⟩ v:=h
theorem R_xo{ops:Array Oper}{i:Nat}{rest:List Nat}(hk:b.kind≠.early)(hb:Bok β v)(h:XOp P mn b.roundOf n ops i (fun _ _ _=>False) (ThenO R n b (.inRegion ops rest::k) cs) ⟨ds,ρ,β⟩ v):XG (R (v.union (A0c β))) n b (.inRegion ops (i::rest)::k) cs ds ρ:=R_xop hk hb h
theorem F_iter{S:Type}{R':S→Goroutine→Prop}{C:Code}{ρ':S→Regs}(μ:S→Nat)(Ok:S→Prop)
  (h:∀x,Ok x→(∀y,μ y<μ x→Ok y→XG (R' y) n b (.code C::.inLoop C::k) cs ds (ρ' y))→XG (R' x) n b (.code C::.inLoop C::k) cs ds (ρ' x)) :
  ∀x,Ok x→XG (R' x) n b (.code C::.inLoop C::k) cs ds (ρ' x):=by
 have key:∀m x,μ x<m→Ok x→XG (R' x) n b (.code C::.inLoop C::k) cs ds (ρ' x):=by
  intro m
  induction m with
  | zero=>intro x hx;omega
  | succ m ih=>intro x hx ho;exact h x ho fun y hy hoy=>ih y oM hoy
 exact fun x=>key (μ x+1) x (Nat.lt_succ_self _)
end
section
variable{P:Program}{mn:Who}(T:Tab P){rd:Option Nat}{n:Nat}{Q:Exit→St→View→Prop}{ds:List Deferred}{ρ:Regs}{β:A0e}{v:View}{K:St→View→Prop}
 {ops:Array Oper}{i:Nat}{d:Nat}{ty:TypeId}{pos:String}{af:Array Edge}{gu:Option (Nat×Bool)}
theorem A_ld{t e:TypeId}{y:Operand}{b off:Nat}{p:Bool}{c:Array Value}{f:Nat×Nat}{x:Value}(ho:ops[i]?=some ⟨some d,.load t y,ty,pos,af,gu⟩)(hw:A0p ops gu ρ=some true)(hn:Nat.blt d n=true)
  (hy:ρ.val y=some (.pointer (some ⟨b,off,none⟩)))(hb:v b=some (p,.cells c e f))(hx:A4k T t c off=some x)
  (h:K ⟨ds,(d,x)::ρ,β⟩ v):XOp P mn rd n ops i Q K ⟨ds,ρ,β⟩ v:=by
 refine A1w ho (A0j hw) (.inr Y) hn fun ev hev hbk=>?_
 unfold execOp
 simp only [Instr.loadAt,Instr.sureAddr,hev _ _ hy,A0a,A0h]
 exact A2z T (A0g _ _ _ _ hb) hx ⟨β,v,⟨hbk,Le.refl _⟩,h⟩
theorem A8z{t:TypeId}{z:Value}(ho:ops[i]?=some ⟨some d,.alloc t,ty,pos,af,gu⟩)(hw:A0p ops gu ρ=some true)(hn:Nat.blt d n=true)(hz:T.zer t=some z)
  (h:∀b,K ⟨ds,(d,.pointer (some ⟨b,0,none⟩))::ρ,(b,z.cells,t)::β⟩ v):XOp P mn rd n ops i Q K ⟨ds,ρ,β⟩ v:=by
 refine A1w ho (A0j hw) (.inr Y) hn fun ev hev hbk=>?_
 simp only [execOp,Instr.alloc,A0a,A8b T hz]
 refine B1k fun b hb'=>?_
 obtain⟨h1,h2⟩:=A7m (c:=z.cells) (t:=t) hbk hb'
 exact⟨_,v,⟨h1,h2⟩,h b⟩
theorem A_mk{op:Op}{x:Value}(ho:ops[i]?=some ⟨some d,op,ty,pos,af,gu⟩)(hw:A0p ops gu ρ=some true)(hn:Nat.blt d n=true)(hx:A1h T ρ.val op=some x)(h:K ⟨ds,(d,x)::ρ,β⟩ v)(hnd:A1t op=false:=by rfl):XOp P mn rd n ops i Q K ⟨ds,ρ,β⟩ v:=by
 refine A1w ho (A0j hw) (.inr hnd) hn fun ev hev hbk=>?_
 exact A5i T hev hx ⟨β,v,⟨hbk,Le.refl _⟩,h⟩
theorem A_ldB{t t':TypeId}{y:Operand}{b off:Nat}{c:Array Value}{x:Value}(ho:ops[i]?=some ⟨some d,.load t y,ty,pos,af,gu⟩)(hw:A0p ops gu ρ=some true)(hn:Nat.blt d n=true)
  (hy:ρ.val y=some (.pointer (some ⟨b,off,none⟩)))(hb:InB b c t' β)(hx:A4k T t c off=some x)
  (h:K ⟨ds,(d,x)::ρ,β⟩ v):XOp P mn rd n ops i Q K ⟨ds,ρ,β⟩ v:=by
 refine A1w ho (A0j hw) (.inr Y) hn fun ev hev hbk=>?_
 unfold execOp
 simp only [Instr.loadAt,Instr.sureAddr,hev _ _ hy,A0a,A0h]
 exact A2z T (A0q hbk hb) hx ⟨β,v,⟨hbk,Le.refl _⟩,h⟩
end
section
variable{P:Program}{mn:Who}{R:View→Goroutine→Prop}[A:Abs P mn R]{v:View}{g:Goroutine}{β β':A0e}
include A in
theorem Abs.drop(hs:Subm β' β)(hb:Bok β v)(h:R (v.union (A0c β')) g):R (v.union (A0c β)) g:=
 Abs.le h fun b x hx=>by
  unfold View.union at hx⊢
  cases hv:v b with
  | some y=>rw [hv]at hx;exact hx
  | none=>rw [hv]at hx;exact(A6b hs hb.nodup).2 b x hx
theorem row_same{v:View}{a:Option Addr}{xs:List Value}{n k:Nat}(h:RowAt v a xs)(hn:n≠0→xs≠[]):(if n=0 then a else a.map (·.add (0*k)))=a:=by
 split
 ·rfl
 ·rename_i h0
  rcases h with h|⟨b,off,p,c,e,f,rfl,_⟩
  ·exact absurd h (hn h0)
  ·rw [Option.map_some,A5n];simp
theorem OwnS.cap{e:TypeId}{k:Nat}{seg:A0e}{a:Option Addr}{len cap:Nat}{xs:List Value}(h:OwnS e k seg a len cap xs):len≤cap:=by
 cases h with
 | nil=>exact Nat.le_refl _
 | box _ h _ _=>exact h
theorem A4x{v:View}{β β1 β2:A0e}(hb:Bok β v)(hp:∀p,cnt p β=cnt p (β1++β2)):Bok β1 v∧Bok β2 (v.union (A0c β1))∧v.union (A0c β)=(v.union (A0c β1)).union (A0c β2):=by
 obtain⟨hb1,he⟩:=A3v (A2e (l:=β) (m:=β2++β1) fun p=>by rw [hp p,A0n,A0n];omega) hb
 obtain⟨hb2,hb3⟩:=bok_append.1 hb1
 exact⟨hb2,hb3,by rw [←he,A0v hb1]⟩
end
end Go.Pal
end
