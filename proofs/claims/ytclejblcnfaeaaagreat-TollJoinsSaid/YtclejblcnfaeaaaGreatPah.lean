/- Part 8. -/
import Derived.Conc.AtomicLaws2
import Derived.Conc.ClockLaws
import Derived.Conc.DeferLaws
import Derived.Conc.MarkLaws
import Derived.Conc.Own2
import Derived.Conc.Own4
import Derived.Conc.SmallLaws
import Derived.Laws.LoneSync
import Derived.Test.YtclejblcnfaeaaaGreatPaf
import Derived.Test.YtclejblcnfaeaaaGreatPag
set_option linter.all false
section
namespace Go.Pal
open Go Go.Conc View
theorem A1t(v:View):v.union (A0c [])=v:=by
 funext b;unfold View.union;cases v b<;>rfl
theorem A4h(v:View):Bok [] v:=⟨by simp,fun _=>.inr Y⟩
class Sil(P:outParam Program)(main:outParam Bool)(R:Goroutine→Prop):Prop where
 step:∀{g g':Goroutine},g.status = .running→(∀w,stepG P main g w = .go g' w #[])→R g'→R g
instance {P:Program} {mn:Who} {Stop:View→Goroutine→Prop} {v:View}:Sil P mn.main (Run P mn Stop v):=⟨fun hs h r=>Run.ctl hs h r⟩
instance {P:Program} {main:Bool} {W:World→Prop} {Stop:View→Goroutine→Prop} {v:View}:Sil P main (RunW P main W Stop v):=
 ⟨fun {_ g'} hs h r=>.step hs (fun _=>g') (fun w=>w) (fun _=>#[]) (fun _=>v) (fun w _ hw=>⟨h w,.refl hw⟩) (fun _ _ _=>r)⟩
instance {P:Program} {Stop:Goroutine→Prop}:Sil P false (MRun P Stop):=⟨fun hs h r=>.step hs h r⟩
def A9r(P:Program)(d:Nat)(g:Goroutine):Prop:=∃q,QuitsD P q d g
instance {P:Program} {d:Nat}:Sil P false (A9r P d):=⟨fun hs h ⟨q,hq⟩=>⟨q+1,.inr ⟨hs,_,#[],by simp,h,by simpa [deafBehind]using hq⟩⟩⟩
def Pu{α:Type}(P:Program)(m:Sem α)(x:α):Prop:=∀w,m.run P w = .ok x w∧∀es,m.events P w es=es
theorem Pu.pure{α:Type}{P:Program}(x:α):Pu P (pure x) x:=fun w=>⟨Y,fun es=>rfl⟩
theorem Pu.bind{α β:Type}{P:Program}{m:Sem α}{f:α→Sem β}{x:α}{y:β}(h:Pu P m x)(k:Pu P (f x) y):Pu P (m >>= f) y:=fun w=>by
 refine⟨by rw [Sem.run_bind,(h w).1];exact(k w).1,fun es=>?_⟩
 rw [Sem.events_bind,(h w).1,(h w).2]
 exact(k w).2 es
theorem Pu.und{P:Program}{t:TypeId}{d:TypeDesc}(h:P.underlying t=some d):Pu P (underlying t) d:=fun w=>⟨by simp [underlying,h],fun es=>by simp⟩
theorem Pu.siz{P:Program}{T:Tab P}{t:TypeId}{n:Nat}(h:T.siz t=some n):Pu P (sizeOf t) n:=fun w=>by
 obtain⟨i,hi,rfl⟩:=T.siz_ok _ _ h
 exact⟨by simp [sizeOf,typeInfo,hi],fun es=>by simp⟩
def silOp(g:Operand→Option Value):Op→Bool
 | .move _ | .assign _ | .pick .. | .nilCheck _ | .unOp .. | .convert .. | .fieldAddr ..=>true
 | .binOp _ _ x y _=>match g x,g y with|some (.int _ _),some (.int _ _)=>true|_,_=>false
 | _=>false
theorem binVal_pu{P:Program}{T:Tab P}{op:BinOp}{t:TypeId}{k k':IntKind}{a b:Int}{x:Value}{y z:Operand}(h:A5j T op t (.int k a) (.int k' b)=some x):Pu P (do eqGuard op t y z (.int k a) (.int k' b);binOp op t (.int k a) (.int k' b)) x:=by
 have heq:eqGuard op t y z (.int k a) (.int k' b)=pure ():=by unfold eqGuard;cases op<;>rfl
 rw [heq]
 refine Pu.bind (Pu.pure ()) ?_
 simp only [A5j]at h
 split at h
 ·split at h
  ·cases h
  ·rename_i hb;cases h;simp only [binOp,Op.shift,if_neg hb];exact Pu.pure _
 ·split at h
  ·cases h
  ·rename_i hb;cases h;simp only [binOp,Op.shift,if_neg hb];exact Pu.pure _
 ·split at h
  ·rename_i hkk
   subst hkk
   split at h
   ·cases h
   ·rename_i hb;cases h;simp only [binOp,ne_eq,not_true_eq_false,if_false,Op.intDiv,if_neg hb];exact Pu.pure _
  ·cases h
 ·split at h
  ·rename_i hkk
   subst hkk
   split at h
   ·cases h
   ·rename_i hb;cases h;simp only [binOp,ne_eq,not_true_eq_false,if_false,Op.intDiv,if_neg hb];exact Pu.pure _
  ·cases h
 ·split at h
  ·rename_i hkk
   subst hkk
   cases op<;>simp only [A9p]at h<;>first|(cases h;done)|(cases h;simp only [binOp,Op.intArith,Op.intCmp,Op.intBits,ne_eq,not_true_eq_false,if_false];first|exact Pu.pure _|exact Pu.bind (Pu.pure _) (Pu.pure _))
  ·cases h
theorem evalOp_pu{P:Program}{T:Tab P}{g:Operand→Option Value}{ρ:Operand→Value}(hg:∀x y,g x=some y→ρ x=y){o:Oper}{x:Value}(hs:silOp g o.op=true)(h:A1n T g o.op=some x):Pu P (execOp ρ o) (.value x):=by
 obtain⟨dst,op,ty,pos,af,gu⟩:=o
 cases op with
 | move y=>simp only [A1n]at h;simp only [execOp,hg _ _ h];exact Pu.pure _
 | assign y=>simp only [A1n]at h;simp only [execOp,hg _ _ h];exact Pu.pure _
 | pick c a b=>
  simp only [A1n]at h
  split at h
  ·rename_i hc;simp only [execOp,hg _ _ hc,hg _ _ h,asBool];exact Pu.bind (Pu.pure _) (Pu.pure _)
  ·rename_i hc;simp only [execOp,hg _ _ hc,hg _ _ h,asBool];exact Pu.bind (Pu.pure _) (Pu.pure _)
  ·cases h
 | nilCheck y=>
  simp only [A1n]at h
  split at h<;>first|(cases h;done)|(rename_i hy;cases h;simp only [execOp,hg _ _ hy];exact Pu.pure _)
 | binOp op t y z t'=>
  simp only [A1n]at h
  simp only [silOp]at hs
  split at hs
  ·rename_i h1 h2
   rw [h1,h2]at h
   simp only [execOp,hg _ _ h1,hg _ _ h2]
   exact Pu.bind (binVal_pu h) (Pu.pure _)
  ·cases hs
 | unOp op t y=>
  cases op<;>simp only [A1n]at h<;>first|(cases h;done)|(split at h<;>first|(cases h;done)|(rename_i hy;cases h;simp only [execOp,hg _ _ hy];exact Pu.bind (Pu.pure _) (Pu.pure _)))
 | convert s d y=>
  simp only [A1n]at h
  split at h
  ·rename_i ds k k' n h1 h2 h3
   cases h
   simp only [execOp,hg _ _ h3,convert]
   refine Pu.bind (Pu.bind (Pu.und (T.und_ok _ _ h1)) (Pu.bind (Pu.und (T.und_ok _ _ h2)) ?_)) (Pu.pure _)
   cases ds<;>exact Pu.pure _
  ·rename_i ds k n h1 h2 h3
   cases h
   simp only [execOp,hg _ _ h3,convert]
   refine Pu.bind (Pu.bind (Pu.und (T.und_ok _ _ h1)) (Pu.bind (Pu.und (T.und_ok _ _ h2)) ?_)) (Pu.pure _)
   cases ds<;>exact Pu.pure _
  ·cases h
 | fieldAddr s y f=>
  simp only [A1n]at h
  split at h
  ·rename_i fs b off h1 h2
   split at h
   ·rename_i fd hf
    split at h
    ·rename_i n hn
     cases h
     have hadd:(⟨b,off,none⟩:Addr).add fd.offset=⟨b,off+fd.offset,none⟩:=by unfold Addr.add;split<;>simp_all
     simp only [execOp,hg _ _ h2,Instr.fieldAt,Instr.sureAddr,fieldPlace]
     refine Pu.bind (Pu.bind (Pu.und (T.und_ok _ _ h1)) ?_) (Pu.pure _)
     simp only [hf]
     refine Pu.bind (Pu.pure _) (Pu.bind (Pu.bind (Pu.siz hn) ?_) (Pu.pure _))
     rw [if_neg oM,hadd]
     exact Pu.pure _
    ·cases h
   ·cases h
  ·cases h
 | _=>cases hs
theorem A1z{b:Frame}(hr:b.roundOf=none)(c:Act)(its:List Item):b.on c its=b.at c its:=by simp [Frame.on,Frame.at,hr]
def _root_.Go.Frame.out(b:Frame)(a:Act)(its:List Item):Frame:={b.on a its with mode:=.returning }
structure Ext(P:Program)(f:FuncId)(fn:Func)(e:Array Value→Sem Value):Prop where
 hf:P.funcs[f]?=some fn
 hname:(fn.name == "runtime.NumGoroutine")=false
 hb:fn.body.isNone=true
 hn:Extern.findNext fn=none
 he:Extern.find fn=some e
def XG(R:Goroutine→Prop)(n:Nat)(b:Frame)(its:List Item)(cs:List Frame)(ds:List Deferred)(ρ:Regs):Prop:=
 ∀a,Fits n ⟨ds,ρ,[]⟩ a→R (G (b.on a its) cs)
def XB(R:Goroutine→Prop)(n:Nat)(b:Frame)(its:List Item)(cs:List Frame)(ds:List Deferred)(ρ:Regs):Prop:=
 ∀a,Fits n ⟨ds,ρ,[]⟩ a→R (G (b.out a its) cs)
section
variable{P:Program}(T:Tab P){main:Bool}{R:Goroutine→Prop}[S:Sil P main R]{n:Nat}{b:Frame}{k:List Item}{cs:List Frame}{ρ:Regs}{ds:List Deferred}
include S
theorem A3t{x y:Code}(h:XG R n b (.code x::.code y::k) cs ds ρ):XG R n b (.code (.seq x y)::k) cs ds ρ:=fun a hf=>
 S.step rfl (fun w=>by simp [G,stepG,stepG.exec,Frame.on]) (h a hf)
theorem B3p(h:XG R n b k cs ds ρ):XG R n b (.code .skip::k) cs ds ρ:=fun a hf=>
 S.step rfl (fun w=>by simp [G,stepG,stepG.exec,Frame.on]) (h a hf)
theorem F_label{l:Nat}(h:XG R n b k cs ds ρ):XG R n b (.code (.label l)::k) cs ds ρ:=fun a hf=>
 S.step rfl (fun w=>by simp [G,stepG,stepG.exec,Frame.on]) (h a hf)
theorem B0w{id:Nat}{c:Code}(h:XG R n b (.code c::.inBlock id::k) cs ds ρ):XG R n b (.code (.block id c)::k) cs ds ρ:=fun a hf=>
 S.step rfl (fun w=>by simp [G,stepG,stepG.exec,Frame.on]) (h a hf)
theorem F_inBlock{id:Nat}(h:XG R n b k cs ds ρ):XG R n b (.inBlock id::k) cs ds ρ:=fun a hf=>
 S.step rfl (fun w=>by simp [G,stepG,stepG.exec,Frame.on]) (h a hf)
theorem F_exit{id:Nat}{k':List Item}(he:exitTo id k=some k')(h:XG R n b k' cs ds ρ):XG R n b (.code (.exit id)::k) cs ds ρ:=fun a hf=>
 S.step rfl (fun w=>by simp [G,stepG,stepG.exec,Frame.on,he]) (h a hf)
theorem F_scope{c:Code}(h:XG R n b (.code c::.inScope c::k) cs ds ρ):XG R n b (.code (.scope c)::k) cs ds ρ:=fun a hf=>
 S.step rfl (fun w=>by simp [G,stepG,stepG.exec,Frame.on]) (h a hf)
theorem F_loop{c:Code}(h:XG R n b (.code c::.inLoop c::k) cs ds ρ):XG R n b (.code (.loop c)::k) cs ds ρ:=fun a hf=>
 S.step rfl (fun w=>by simp [G,stepG,stepG.exec,Frame.on]) (h a hf)
theorem A5z{c:Code}(h:XG R n b (.code c::.inLoop c::k) cs ds ρ):XG R n b (.inLoop c::k) cs ds ρ:=fun a hf=>
 S.step rfl (fun w=>by simp [G,stepG,stepG.exec,Frame.on]) (h a hf)
theorem F_cond{c:Operand}{x y:Code}{t:Bool}(hc:ρ.val c=some (.bool t))(h:XG R n b (.code (if t then x else y)::k) cs ds ρ):XG R n b (.code (.cond c x y)::k) cs ds ρ:=fun a hf=>
 S.step rfl (g':=G (b.on a (.code (if t then x else y)::k)) cs) (fun w=>by
  have h':(b.on a (.code (.cond c x y)::k)).eval c = .bool t:=by rw [eval_on];exact A0m hf _ _ hc
  simp only [Frame.on]at h'
  simp [G,stepG,stepG.exec,Frame.on,h']) (h a hf)
theorem A8p{c:Operand}{x y:Code}(hc:ρ.val c=some (.bool true))(h:XG R n b (.code x::k) cs ds ρ):XG R n b (.code (.cond c x y)::k) cs ds ρ:=F_cond hc h
theorem B0v{c:Operand}{x y:Code}(hc:ρ.val c=some (.bool false))(h:XG R n b (.code y::k) cs ds ρ):XG R n b (.code (.cond c x y)::k) cs ds ρ:=F_cond hc h
theorem A0s{id:Nat}{ops:Array Oper}{l:List Nat}(hl:List.range ops.size=l)(h:XG R n b (.inRegion ops l::k) cs ds ρ):XG R n b (.code (.region id ops false)::k) cs ds ρ:=fun a hf=>
 S.step rfl (g':=G (b.on a (.inRegion ops (List.range ops.size)::k)) cs) (fun w=>by simp [G,stepG,stepG.exec,Frame.on]) (by rw [hl];exact h a hf)
theorem F_nil{ops:Array Oper}(h:XG R n b k cs ds ρ):XG R n b (.inRegion ops []::k) cs ds ρ:=fun a hf=>
 S.step rfl (fun w=>by simp [G,stepG,stepG.exec,Frame.on]) (h a hf)
variable{ops:Array Oper}{i:Nat}{rest:List Nat}{d:Nat}{op:Op}{ty:TypeId}{pos:String}{af:Array Edge}{gu:Option (Nat×Bool)}
theorem F_skipop(ho:ops[i]?=some ⟨some d,op,ty,pos,af,gu⟩)(hw:A0r ops gu ρ=some false)(hn:Nat.blt d n=true)(h:XG R n b (.inRegion ops rest::k) cs ds ((d,undef)::ρ)) :
  XG R n b (.inRegion ops (i::rest)::k) cs ds ρ:=fun a hf=>by
 refine S.step Y (g':=G (b.on (a.put (some d) undef) (.inRegion ops rest::k)) cs) (fun w=>?_) (h _ (A0z hf (show A2u n (some d)=true from hn)))
 have hw':=A0n (o:=⟨some d,op,ty,pos,af,gu⟩) hf (A0l hw)
 rw [←A2o b a ops i rest k _ undef ho]
 simp [G,stepG,stepG.exec,Frame.on,ho,hw']
theorem A0u{x:Value}(hk:b.kind≠.early)(hr:b.roundOf=none)(ho:ops[i]?=some ⟨some d,op,ty,pos,af,gu⟩)(hw:A0r ops gu ρ=some true)(hn:Nat.blt d n=true)(hs:silOp ρ.val op=true)(hx:A1n T ρ.val op=some x)(h:XG R n b (.inRegion ops rest::k) cs ds ((d,x)::ρ)) :
  XG R n b (.inRegion ops (i::rest)::k) cs ds ρ:=fun a hf=>by
 have hp:=evalOp_pu (T:=T) (o:=⟨some d,op,ty,pos,af,gu⟩) (A0m hf) hs hx
 refine S.step Y (g':=G (b.on (a.put (some d) x) (.inRegion ops rest::k)) cs) (fun w=>?_) (h _ (A0z hf (show A2u n (some d)=true from hn)))
 rw [A1z hr,A1z hr,stepG_value (v:=x) (w':=w) ho (A0n hf (A0l hw)) hk (hp w).1]
 unfold listed
 rw [(hp w).2]
 simp [seen_none]
def isMv:Op→Bool
 | .binOp .. | .convert ..=>false
 | _=>true
theorem F_mv{x:Value}(hk:b.kind≠.early)(hr:b.roundOf=none)(ho:ops[i]?=some ⟨some d,op,ty,pos,af,gu⟩)(hm:isMv op=true)(hw:A0r ops gu ρ=some true)(hn:Nat.blt d n=true)(hs:silOp ρ.val op=true)(hx:A1n T ρ.val op=some x)(h:XG R n b (.inRegion ops rest::k) cs ds ((d,x)::ρ)) :
  XG R n b (.inRegion ops (i::rest)::k) cs ds ρ:=A0u T hk hr ho hw hn hs hx h
theorem F_ext{f:FuncId}{fn:Func}{aS:Array Operand}{ats:Array TypeId}{e:Array Value→Sem Value}{x:Value}(hk:b.kind≠.early)(hr:b.roundOf=none)(ho:ops[i]?=some ⟨some d,.call {callee:=.value (.func f),args:=aS,argTypes:=ats },ty,pos,af,gu⟩)(hw:A0r ops gu ρ=some true)(hn:Nat.blt d n=true)
  (E:Ext P f fn e)(hp:∀l,Pu P (e l) x)(h:XG R n b (.inRegion ops rest::k) cs ds ((d,x)::ρ)):XG R n b (.inRegion ops (i::rest)::k) cs ds ρ:=fun a hf=>by
 refine S.step Y (g':=G (b.on (a.put (some d) x) (.inRegion ops rest::k)) cs) (fun w=>?_) (h _ (A0z hf (show A2u n (some d)=true from hn)))
 rw [A1z hr,A1z hr]
 exact stepG_entry ho (A0n hf (A0l hw)) hk Y E.hf E.hname E.hb E.hn E.he ((hp _) w).1 (by rw [((hp _) w).2];simp) sM
theorem F_defer{f:FuncId}{aS:Array Operand}{ats:Array TypeId}{xs:List Value}(hk:b.kind≠.early)(hr:b.roundOf=none)(ho:ops[i]?=some ⟨none,.defer {callee:=.value (.func f),args:=aS,argTypes:=ats },ty,pos,af,gu⟩)(hw:A0r ops gu ρ=some true)
  (hxs:A2y ρ.val aS.toList=some xs)(h:XG R n b (.inRegion ops rest::k) cs (dcall f xs.toArray::ds) ρ):XG R n b (.inRegion ops (i::rest)::k) cs ds ρ:=fun a hf=>by
 have ha:aS.map a.eval=xs.toArray:=Array.toList_inj.1 (by simpa using A2h (A0m hf) hxs)
 have hwt:=A0n (o:=⟨none,.defer {callee:=.value (.func f),args:=aS,argTypes:=ats },ty,pos,af,gu⟩) hf (A0l hw)
 refine S.step Y (g':=G (b.on ⟨a.tmps,dcall f xs.toArray::a.defers⟩ (.inRegion ops rest::k)) cs) (fun w=>?_) (h _ ⟨hf.size,by show _::_=_::_;rw [hf.defers],hf.get⟩)
 rw [A1z hr,A1z hr,stepG_defer ho hwt hk Y,ha]
 rfl
theorem A7c{f:Operand}{args:Array Operand}{ats:Array TypeId}{g:FuncId}{fn:Func}{c:Code}{first captured:Array Value}{xs ys:List Value}(hk:b.kind≠.early)(hr:b.roundOf=none)(ho:ops[i]?=some ⟨some d,.call {callee:=.value f,args:=args,argTypes:=ats },ty,pos,af,gu⟩)(hw:A0r ops gu ρ=some true)(hn:Nat.blt d n=true)
  (hf:ρ.val f=some (.func (.func g) first captured))(hxs:A2y ρ.val args.toList=some xs)(hfn:P.funcs[g]?=some fn)(hb:fn.body=some c)(hnm:fn.name≠ "runtime.NumGoroutine")(hys:first.toList++xs++captured.toList=ys)
  (h:∀cf:Frame,cf.mode = .run→(∀(R':Goroutine→Prop) (x:Value),XG R' n b (.inRegion ops rest::k) cs ds ((d,x)::ρ)→R' (G (cf.finish x) cs))→R (G (Frame.enter P g ys.toArray .normal) (cf::cs))) :
  XG R n b (.inRegion ops (i::rest)::k) cs ds ρ:=fun a hfit=>by
 have ha:args.map a.eval=xs.toArray:=Array.toList_inj.1 (by simpa using A2h (A0m hfit) hxs)
 have hwt:=A0n (o:=⟨some d,.call {callee:=.value f,args:=args,argTypes:=ats },ty,pos,af,gu⟩) hfit (A0l hw)
 have hst:=fun w=>A2f (P:=P) (mn:=⟨main,false⟩) (b:=b) (k:=k) (cs:=cs) (w:=w) (rest:=rest) ho hwt (.inl hr)
 have hk':((b.on a (.inRegion ops (i::rest)::k)).kind==CallKind.early)=false:=by simpa [Frame.on]using hk
 have hsem:∀w,(execOp a.eval ⟨some d,.call {callee:=.value f,args:=args,argTypes:=ats },ty,pos,af,gu⟩).runT P w #[]=(.ok (.enter g ys.toArray) w,#[]):=fun w=>by
  have e1:execOp a.eval ⟨some d,.call {callee:=.value f,args:=args,argTypes:=ats },ty,pos,af,gu⟩=callFunc g ys.toArray:=by
   have:(first++xs.toArray++captured:Array Value)=ys.toArray:=by rw [←hys];apply Array.ext';simp
   unfold execOp
   simp [resolve,Deferred.ofValue,invoke,A0m hfit _ _ hf,ha,←this]
  rw [e1]
  unfold callFunc
  show Sem.runT P (Sem.bind _ _) w #[]=_
  simp only [program,Sem.bind,Sem.runT,hfn]
  rw [if_neg (by simpa using hnm),if_neg (by simp [hb])]
  try rfl
 refine S.step Y (g':=G (Frame.enter P g ys.toArray .normal) (b.on a (.inRegion ops (i::rest)::k)::cs)) (fun w=>?_) (h _ Y fun R' x hx=>?_)
 ·have hst:=hst w
  dsimp only at hst
  rw [hst]
  unfold stepG.apply
  simp only [if_true,hsem w,hk',Bool.false_eq_true,if_false]
  rfl
 ·rw [A2o b a ops i rest k _ x ho]
  exact hx _ (A0z hfit (show A2u n (some d)=true from hn))
omit S in
theorem A3h{g:FuncId}{fn:Func}{c:Code}{ys:List Value}(hfn:P.funcs[g]?=some fn)(hb:fn.body=some c)(hle:ys.length≤fn.ntmps)
  {kd:CallKind}(h:∀bf:Frame,bf.kind=kd→bf.roundOf=none→bf.fn=g→XG R fn.ntmps bf [.code c] cs [] (A2q 0 ys)):R (G (Frame.enter P g ys.toArray kd) cs):=by
 let bf:Frame:={fn:=g,tmps:=#[],todo:=[],defers:=[],mode:=.run,kind:=kd }
 have henter:Frame.enter P g ys.toArray kd=bf.on {tmps:=ys.toArray++Array.replicate (fn.ntmps-ys.length) undef,defers:=[] } [.code c]:=by
  simp [Frame.enter,Frame.on,hfn,hb,bf]
 rw [henter]
 refine h bf Y Y Y _ ⟨?_,Y,?_⟩
 ·simp;omega
 ·have key:∀(l:List Value) (i t:Nat) (x:Value),(A2q i l).get t=some x→i≤t∧l[t-i]?=some x:=by
   intro l
   induction l with
   | nil=>intro i t x h;simp [A2q,Regs.get]at h
   | cons y l ih=>
    intro i t x h
    simp only [A2q,Regs.get]at h
    cases hb:Nat.beq i t with
    | true=>
     rw [hb]at h
     have:=Nat.eq_of_beq_eq_true hb
     subst this
     simp only [cond_true]at h
     exact⟨Nat.le_refl _,by simpa using h⟩
    | false=>
     rw [hb]at h
     obtain⟨h1,h2⟩:=ih (i+1) t x h
     refine⟨oM,?_⟩
     rw [show t-i=(t-(i+1))+1 by omega]
     simpa using h2
  intro t x hx
  obtain⟨_,h2⟩:=key ys 0 t x hx
  simp only [Nat.sub_zero]at h2
  obtain⟨hlt,_⟩:=List.getElem?_eq_some_iff.1 h2
  rw [Array.getElem?_append_left (by simpa using hlt)]
  simpa using h2
theorem F_end(hr:b.roundOf=none)(h:XB R n b [] cs ds ρ):XG R n b [] cs ds ρ:=fun a hf=>
 S.step rfl (g':=G (b.out a []) cs) (fun w=>by simp [G,stepG,stepG.exec,Frame.on,Frame.out,hr]) (h a hf)
theorem A7e(hr:b.roundOf=none)(h:XB R n b (.code .ret::k) cs ds ρ):XG R n b (.code .ret::k) cs ds ρ:=fun a hf=>
 S.step rfl (g':=G (b.out a (.code .ret::k)) cs) (fun w=>by simp [G,stepG,stepG.exec,Frame.on,Frame.out,hr]) (h a hf)
theorem B_ret{fn:Func}{cf:Frame}(hk:b.kind = .normal)(hfn:P.funcs[b.fn]?=some fn)(hres:fn.results=#[])(h:R (G (cf.finish (.tuple #[])) cs)):XB R n b k (cf::cs) [] ρ:=fun a hf=>
 S.step rfl (g':=G (cf.finish (.tuple #[])) cs) (fun w=>by
  have h1:=hf.defers
  simp only at h1
  simp [G,stepG,unwind,Frame.out,Frame.on,h1,hfn,results,hres,doReturn,hk,GStep.after,seen_none,Sem.runT,Sem.bind]) h
theorem A7r{fn:Func}{cf:Frame}{t:Nat}{x:Value}(hk:b.kind = .normal)(hfn:P.funcs[b.fn]?=some fn)(hres:fn.results=#[.tmp t])(hx:ρ.get t=some x)(h:R (G (cf.finish x) cs)):XB R n b k (cf::cs) [] ρ:=fun a hf=>
 S.step rfl (g':=G (cf.finish x) cs) (fun w=>by
  have h1:=hf.defers
  have h2:=hf.get t x hx
  simp only at h1
  simp [G,stepG,unwind,Frame.out,Frame.on,h1,hfn,results,hres,h2,doReturn,hk,GStep.after,seen_none,Sem.runT,Sem.bind]) h
theorem B_retD{fn:Func}{cf:Frame}(hk:b.kind = .deferred)(hfn:P.funcs[b.fn]?=some fn)(hres:fn.results=#[])(hc:cf.mode = .returning)(h:R (G cf cs)):XB R n b k (cf::cs) [] ρ:=fun a hf=>
 S.step rfl (g':=G cf cs) (fun w=>by
  have h1:=hf.defers
  simp only at h1
  simp [G,stepG,unwind,Frame.out,Frame.on,h1,hfn,results,hres,doReturn,hk,hc,GStep.after,seen_none,Sem.runT,Sem.bind]) h
theorem B_retG{fn:Func}{cf:Frame}(hk:b.kind = .deferred)(hfn:P.funcs[b.fn]?=some fn)(hres:fn.results=#[])(hc:cf.mode = .panicking [goexitEntry])(h:R (G cf cs)):XB R n b k (cf::cs) [] ρ:=fun a hf=>
 S.step rfl (g':=G cf cs) (fun w=>by
  have h1:=hf.defers
  simp only at h1
  simp [G,stepG,unwind,Frame.out,Frame.on,h1,hfn,results,hres,doReturn,hk,hc,goexitEntry,GStep.after,seen_none,Sem.runT,Sem.bind]) h
theorem B_enter{f:FuncId}{fn:Func}{c:Code}{args:Array Value}(hr:b.roundOf=none)(hf':P.funcs[f]?=some fn)(hname:(fn.name == "runtime.NumGoroutine")=false)(hb:fn.body=some c)
  (h:∀cf:Frame,cf.mode = .returning→(∀R':Goroutine→Prop,XB R' n b k cs ds ρ→R' (G cf cs))→R (G (Frame.enter P f args .deferred) (cf::cs))):XB R n b k cs (dcall f args::ds) ρ:=fun a hf=>by
 refine S.step Y (g':=G (Frame.enter P f args .deferred) (b.out ⟨a.tmps,ds⟩ k::cs)) (fun w=>?_) (h _ Y fun R' hx=>hx _ ⟨hf.size,Y,hf.get⟩)
 have:=stepG_unwind_enter (main:=main) (b:=b) (a:=a) (cs:=cs) (w:=w) (todo:=k) (ds:=ds) (args:=args) hf.defers hf' hname hb
 simp only [Frame.out,A1z hr]
 rw [this,enter_atD args hf' hb]
end
section
variable{P:Program}{mn:Who}{W:World→Prop}{Stop:View→Goroutine→Prop}{n:Nat}{b:Frame}{k:List Item}{cs:List Frame}{ρ:Regs}{v:View}{ds:List Deferred}
abbrev XF(P:Program)(main:Bool)(W:World→Prop)(Stop:View→Goroutine→Prop)(n:Nat)(b:Frame)(its:List Item)(cs:List Frame)(ds:List Deferred)(ρ:Regs)(v:View):Prop:=XG (RunW P main W Stop v) n b its cs ds ρ
variable{ops:Array Oper}{i:Nat}{rest:List Nat}{d:Nat}{op:Op}{ty:TypeId}{pos:String}{af:Array Edge}{gu:Option (Nat×Bool)}
variable(T:Tab P)
end
section
variable{P:Program}{mn:Who}{Stop:View→Goroutine→Prop}{v:View}
theorem run_defer{fr:Frame}{cs:List Frame}{k:FuncId}{fn:Func}{args:Array Value}{ds:List Deferred}(hm:fr.mode = .returning∨∃ch,fr.mode = .panicking ch)(hd:fr.defers=dcall k args::ds)
  (hf:P.funcs[k]?=some fn)(hname:fn.name≠ "runtime.NumGoroutine")(hb:¬fn.body=none)(h:Run P mn Stop v (G (Frame.enter P k args .deferred) ({fr with defers:=ds }::cs))):Run P mn Stop v (G fr cs):=by
 refine Run.ctl Y (fun w=>?_) h
 rcases hm with hm|⟨ch,hm⟩<;>simp [G,stepG,hm,unwind,hd,dcall,callDeferred,invoke,callFunc,hf,hname,hb,GStep.after,seen_none]
theorem A8z{fr:Frame}{cs:List Frame}{r:Nat}{ds:List Deferred}(hm:fr.mode = .returning)(hd:fr.defers={target:=.collected r,args:=#[] }::ds)(hr:v r=some (true,.deferred (some [])))
  (h:Run P mn Stop (v.set r true (.deferred none)) (G {fr with defers:=ds } cs)):Run P mn Stop v (G fr cs):=by
 refine A6b (m:=Instr.takeDeferred r) (K:=fun l u=>l=[]∧u=v.set r true (.deferred none)) (E:=fun _ _=>False) Y ?_ (fun l u hl=>?_) (fun x v' hx=>hx.elim)
 ·unfold Instr.takeDeferred
  rw [A0b]
  refine A7h hr Y Y ?_
  rw [A0b]
  exact A6e hr Y Y ⟨Y,Y⟩
 ·obtain⟨rfl,rfl⟩:=hl
  refine⟨G {fr with defers:=ds } cs,fun w w' es hrun=>⟨seen P fr.fn es++#[],?_,fun e he=>mem_seen (by simpa using he)⟩,h⟩
  have h1:stepG P mn.main (G fr cs) w=unwind P mn.main fr cs none w:=by simp [G,stepG,hm]
  rw [h1]
  unfold unwind
  simp only [hd,hrun]
  rfl
theorem A9m{fn:Func}{β:A0f}{args:List Value}(hn:args.length≤fn.ntmps):Fits fn.ntmps ⟨[],A2q 0 args,β⟩ {tmps:=args.toArray++Array.replicate (fn.ntmps-args.toArray.size) undef,defers:=[] }:=by
 refine⟨by simp;omega,Y,?_⟩
 have key:∀(l:List Value) (i t:Nat) (x:Value),(A2q i l).get t=some x→i≤t∧l[t-i]?=some x:=by
  intro l
  induction l with
  | nil=>intro i t x h;simp [A2q,Regs.get]at h
  | cons y l ih=>
   intro i t x h
   simp only [A2q,Regs.get]at h
   cases hb:Nat.beq i t with
   | true=>
    rw [hb]at h
    have:=Nat.eq_of_beq_eq_true hb
    subst this
    simp only [cond_true]at h
    exact⟨Nat.le_refl _,by simpa using h⟩
   | false=>
    rw [hb]at h
    obtain⟨h1,h2⟩:=ih (i+1) t x h
    refine⟨oM,?_⟩
    rw [show t-i=(t-(i+1))+1 by omega]
    simpa using h2
 intro t x hx
 obtain⟨_,h2⟩:=key args 0 t x hx
 simp only [Nat.sub_zero]at h2
 obtain⟨hlt,_⟩:=List.getElem?_eq_some_iff.1 h2
 rw [Array.getElem?_append_left (by simpa using hlt)]
 simpa using h2
variable(T:Tab P)
theorem B2i{n:Nat}{fn:Func}{R:End→A0f→Prop}{a:Act}{ds:List Deferred}{ρ:Regs}{β β'':A0f}{u w:View}{xs:List Value}(hf':Fits n ⟨ds,ρ,β⟩ a)(hb':Bok β u)(hl:(u.union (A0c β)).Le w)(hr:ResL T ρ β fn.results.toList xs)(hR:R (.ret (A4e xs)) β'')(hB:Back v β'' u β) :
  SemX P (results fn a.tmps) (fun x v'=>∃β',R (.ret x) β'∧Bok β' v∧(v.union (A0c β')).Le v') (fun _ _=>False) w:=by
 obtain⟨h1,h2⟩:=hB hb'
 unfold results
 rw [A0b,Array.mapM_eq_mapM_toList,sx_map]
 refine sx_resL T hf' hb' hl hr ?_
 rw [A0h]
 refine⟨β'',?_,h1,h2.trans hl⟩
 match xs,hR with
 | [],hR=>simpa [A4e]using hR
 | [x],hR=>simpa [A4e]using hR
 | x::y::r,hR=>simpa [A4e]using hR
end
section
variable{P:Program}{mn:Who}{v:View}
theorem RoundX.mono{l:Nat}{f:FuncId}{tmps:Array Value}{assign body:Code}{R R':End→View→Prop}(h:RoundX P mn l f tmps assign body R v)(hq:∀e v,R e v→∃u,u.Le v∧R' e u):RoundX P mn l f tmps assign body R' v:=fun Stop c cs hc hk=>
 h Stop c cs hc fun e v' hR=>by
  obtain⟨u,hl,hR'⟩:=hq e v' hR
  exact(hk e u hR').weaken hl
end
def Ret1(P:Program)(mn:Who)(k:FuncId)(args:List Value)(x:Value)(v:View):Prop:=CallsB P mn k args.toArray (RetB fun r β'=>r=x∧β'=[]) [] v
section
variable{P:Program}{mn:Who}{v u:View}
theorem Ret1.x{k:FuncId}{args:List Value}{x:Value}(h:Ret1 P mn k args x v):CallsX P mn k args.toArray (fun e u=>e = .ret x∧v.Le u) v:=by
 have h1:=h ⟨List.nodup_nil,fun _=>.inr Y⟩
 rw [show v.union (A0c [])=v from A1t v]at h1
 refine h1.mono fun e w hR=>⟨w,Le.refl _,?_⟩
 obtain⟨β',hR,_,hl⟩:=hR
 cases e with
 | ret y=>
  obtain⟨rfl,rfl⟩:=hR
  rw [A1t]at hl
  exact⟨Y,hl⟩
 | pan ch=>exact hR.elim
theorem Ret1.le{k:FuncId}{args:List Value}{x:Value}(h:Ret1 P mn k args x u)(hl:u.Le v):Ret1 P mn k args x v:=fun hb=>by
 obtain⟨F,rfl,hd⟩:=B1v hl
 rw [A1t]
 refine(CallsX.frame h.x hd).mono fun e w hR=>?_
 obtain⟨u',rfl,hd',rfl,hle⟩:=hR
 refine⟨_,Le.refl _,[],⟨Y,Y⟩,⟨List.nodup_nil,fun _=>.inr Y⟩,?_⟩
 rw [A1t]
 exact A3a hle hd'
theorem Ret1.box{k:FuncId}{args:List Value}{x:Value}{β:A0f}(h:Bok β v→Ret1 P mn k args x (v.union (A0c β))):CallsB P mn k args.toArray (RetB fun r β'=>r=x∧β'=β) β v:=fun hb=>
 (h hb).x.mono fun e w hR=>⟨w,Le.refl _,β,by obtain⟨rfl,hl⟩:=hR;exact⟨⟨Y,Y⟩,hb,hl⟩⟩
theorem CallsB.mono{k:FuncId}{args:Array Value}{R R':End→A0f→Prop}{β:A0f}(h:CallsB P mn k args R β v)(hR:∀e β,R e β→R' e β):CallsB P mn k args R' β v:=fun hb=>
 (h hb).mono fun e w ⟨β',h1,h2,h3⟩=>⟨w,Le.refl _,β',hR _ _ h1,h2,h3⟩
end
section
variable{P:Program}{mn:Who}(T:Tab P){rd:Option Nat}{n:Nat}{Q:Exit→St→View→Prop}{ds:List Deferred}{ρ:Regs}{β:A0f}{v:View}{K:St→View→Prop}
 {ops:Array Oper}{i:Nat}{l:List Oper}{d:Nat}{ty:TypeId}{pos:String}{af:Array Edge}{gu:Option (Nat×Bool)}
theorem A0t{f:Operand}{args:Array Operand}{ats:Array TypeId}{k:FuncId}{first captured:Array Value}{xs ys:List Value}{x:Value}(ho:ops[i]?=some ⟨some d,.call {callee:=.value f,args:=args,argTypes:=ats },ty,pos,af,gu⟩)(hk:A0i P k)(hw:A0r ops gu ρ=some true)(hn:Nat.blt d n=true)
  (hf:ρ.val f=some (.func (.func k) first captured))(hxs:A2y ρ.val args.toList=some xs)(hys:first.toList++(xs++captured.toList)=ys)(hc:Ret1 P mn k ys x v)(h:K ⟨ds,(d,x)::ρ,β⟩ v):XOp P mn rd n ops i Q K ⟨ds,ρ,β⟩ v:=
 A0k [] β ho hk hw hn hf hxs hys (fun _=>rfl) (hc.le (A0e _ _)) (fun y β' hR=>by obtain⟨rfl,rfl⟩:=hR;exact h)
theorem A2z{f:Operand}{args:Array Operand}{ats:Array TypeId}{k:FuncId}{first captured:Array Value}{xs ys:List Value}{x:Value}(hk:A0i P k)(hw:A0r ops gu ρ=some true)(hn:Nat.blt d n=true)
  (hf:ρ.val f=some (.func (.func k) first captured))(hxs:A2y ρ.val args.toList=some xs)(hys:first.toList++(xs++captured.toList)=ys)(hc:Ret1 P mn k ys x v)(h:XL P mn n ops Q l ⟨ds,(d,x)::ρ,β⟩ v) :
  XL P mn n ops Q (⟨some d,.call {callee:=.value f,args:=args,argTypes:=ats },ty,pos,af,gu⟩::l) ⟨ds,ρ,β⟩ v:=by
 refine L_call hw hn hf hxs hk ?_ h
 have:(first++xs.toArray++captured:Array Value)=ys.toArray:=by rw [←hys];apply Array.ext';simp
 rw [this]
 exact hc.x
theorem A_inv1{recv:Operand}{name:String}{args:Array Operand}{ats:Array TypeId}{k:FuncId}{t:TypeId}{td:TypeDesc}{x y:Value}{xs ys:List Value}(ho:ops[i]?=some ⟨some d,.call {callee:=.invoke recv name,args:=args,argTypes:=ats },ty,pos,af,gu⟩)(hk:A0i P k)(hm:methB P t name k=true)(ht:T.und t=some td)(hp:plainD td=true)(hw:A0r ops gu ρ=some true)(hn:Nat.blt d n=true)
  (hx:ρ.val recv=some (.iface t x))(hxs:A2y ρ.val args.toList=some xs)(hys:x::xs=ys)(hc:Ret1 P mn k ys y v)(h:K ⟨ds,(d,y)::ρ,β⟩ v):XOp P mn rd n ops i Q K ⟨ds,ρ,β⟩ v:=
 A_invoke T [] β ho hk hm ht hp hw hn hx hxs hys (fun _=>rfl) (hc.le (A0e _ _)) (fun z β' hR=>by obtain⟨rfl,rfl⟩:=hR;exact h)
theorem A_byte{t:TypeId}{y z:Operand}{s:ByteArray}{j:Nat}{jz:Int}{k:IntKind}(ho:ops[i]?=some ⟨some d,.index t y z,ty,pos,af,gu⟩)(hw:A0r ops gu ρ=some true)(hn:Nat.blt d n=true)(hy:ρ.val y=some (.string s))(hz:ρ.val z=some (.int k jz))(hj:jz=j)(ht:T.und t=some .string){b:UInt8}(hb:s[j]?=some b)
  (h:K ⟨ds,(d,.int .u8 b.toNat)::ρ,β⟩ v):XOp P mn rd n ops i Q K ⟨ds,ρ,β⟩ v:=by
 refine A1u ho (A0l hw) (.inr Y) hn fun ev hev hbk=>?_
 subst hj
 simp only [execOp,A0b,hev _ _ hy,hev _ _ hz,Instr.index,asIntOf,A0h,A1h T ht]
 have:(0:Int)≤(j:Int):=oM
 simp only [this,if_true,Int.toNat_natCast,hb]
 exact⟨β,v,⟨hbk,Le.refl _⟩,h⟩
theorem B0y{x:Operand}{t:TypeId}{y:Value}(ho:ops[i]?=some ⟨none,.panic x,ty,pos,af,gu⟩)(hw:A0r ops gu ρ=some true)(hx:ρ.val x=some (.iface t y))
  (h:Q (.panic [{v:=.iface t y,recovered:=false }]) ⟨ds,ρ,β⟩ v):XOp P mn rd n ops i Q K ⟨ds,ρ,β⟩ v:=by
 refine A1u ho (A0l hw) (.inr Y) Y fun ev hev hbk=>?_
 simp only [execOp,A0b,hev _ _ hx,Instr.panic]
 exact⟨β,v,⟨hbk,Le.refl _⟩,h⟩
theorem A_defer{f:FuncId}{aS:Array Operand}{ats:Array TypeId}{xs:List Value}(hrd:rd=none)(ho:ops[i]?=some ⟨none,.defer {callee:=.value (.func f),args:=aS,argTypes:=ats },ty,pos,af,gu⟩)(hw:A0r ops gu ρ=some true)
  (hxs:A2y ρ.val aS.toList=some xs)(h:K ⟨dcall f xs.toArray::ds,ρ,β⟩ v):XOp P mn rd n ops i Q K ⟨ds,ρ,β⟩ v:=by
 refine A1u ho (A0l hw) (.inl hrd) Y fun ev hev hbk=>?_
 have ha:aS.map ev=xs.toArray:=Array.toList_inj.1 (by simpa using A2h hev hxs)
 have hf:ev (.func f) = .func (.func f) #[] #[]:=hev _ _ Y
 unfold execOp
 simp only [resolve,Deferred.ofValue,hf,ha,A0b,A0h]
 refine⟨hrd,β,v,⟨hbk,Le.refl _⟩,?_⟩
 simpa [dcall,putR]using h
end
def Lift(F u:View):Prop:=∀b x,F b=some x→∃o,x=(true,o)∧(u b=none∨u b=some (false,o))
section
variable{P:Program}{mn:Who}{Stop:View→Goroutine→Prop}{F u u':View}{w w':World}
theorem Lift.agree(h:Lift F u)(ha:(F.union u).Agree w):u.Agree w:=fun b p o e=>by
 cases hF:F b with
 | none=>exact ha b p o (by unfold View.union;rw [hF];exact e)
 | some x=>
  obtain⟨o',rfl,h1|h1⟩:=h b x hF
  ·rw [h1]at e;cases e
  ·rw [h1]at e;cases e
   exact ha b true o (by unfold View.union;rw [hF])
theorem Lift.mine(ha:(F.union u).Agree w):F.Agree w:=ha.le (A0e _ _)
theorem Lift.none(h:Lift F u){b:Nat}(ho:u.Owns b):F b = .none:=by
 cases hF:F b with
 | none=>rfl
 | some x=>
  obtain⟨o',ho⟩:=ho
  obtain⟨o,rfl,h1|h1⟩:=h b x hF<;>(rw [h1]at ho;cases ho)
theorem Lift.owns(h:Lift F u){b:Nat}(ho:u.Owns b):(F.union u).Owns b:=by
 have:=h.none ho
 obtain⟨o,ho⟩:=ho
 exact⟨o,by unfold View.union;rw [this];exact ho⟩
theorem Lift.step(h:Lift F u)(hF:F.Agree w)(ha:u'.Agree w')(keep:∀b,b<w.heap.size→¬u.Owns b→w'.heap[b]?=w.heap[b]?)(dom:∀b,u' b≠.none→u b≠.none∨w.heap.size≤b)(own:∀b,u'.Owns b→u.Owns b∨w.heap.size≤b) :
  Lift F u'∧(F.union u').Agree w'∧(∀b,b<w.heap.size→¬(F.union u).Owns b→w'.heap[b]?=w.heap[b]?)∧(∀b,(F.union u') b≠.none→(F.union u) b≠.none∨w.heap.size≤b)∧(∀b,(F.union u').Owns b→(F.union u).Owns b∨w.heap.size≤b):=by
 have hst:∀b o,F b = .some (true,o)→w'.heap[b]? = .some o:=fun b o hb=>by
  rw [keep b (hF.lt hb) fun hn=>?_]
  ·exact hF b true o hb
  ·have:=h.none hn
   rw [this]at hb;cases hb
 refine⟨fun b x hb=>?_,fun b p o e=>?_,fun b hb hn=>keep b hb fun ho=>hn (h.owns ho),fun b hb=>?_,fun b hb=>?_⟩
 ·obtain⟨o,rfl,_⟩:=h b x hb
  refine⟨o,Y,?_⟩
  cases hu:u' b with
  | none=>exact .inl rfl
  | some y=>
   obtain⟨p,o'⟩:=y
   right
   have h1:=ha b p o' hu
   rw [hst b o hb]at h1
   cases h1
   cases p with
   | false=>rfl
   | true=>
    exfalso
    rcases own b ⟨o,hu⟩with e|e
    ·rw [h.none e]at hb;cases hb
    ·exact absurd (hF.lt hb) oM
 ·unfold View.union at e
  cases hb:F b with
  | none=>rw [hb]at e;exact ha b p o e
  | some x=>
   rw [hb]at e
   cases e
   obtain⟨o',h1,_⟩:=h b _ hb
   cases h1
   exact hst b o hb
 ·unfold View.union at hb⊢
  cases hF':F b with
  | none=>rw [hF']at hb;exact dom b hb
  | some x=>exact .inl sM
 ·obtain⟨o,hb⟩:=hb
  unfold View.union at hb
  cases hF':F b with
  | none=>
   rw [hF']at hb
   rcases own b ⟨o,hb⟩with e|e
   ·exact .inl (h.owns e)
   ·exact .inr e
  | some x=>
   rw [hF']at hb
   cases hb
   exact .inl ⟨o,by unfold View.union;rw [hF']⟩
theorem BigStep.lift{g:Goroutine}{K:View→Goroutine→Prop}(k:BigStep P u g K)(h:Lift F u):BigStep P (F.union u) g (fun v' g'=>∃u',v'=F.union u'∧Lift F u'∧K u' g'):=fun gs w sl t q S hB=>by
 have hap:∀b,S b→u b=none:=fun b hb=>by
  have:=hB.apart b hb
  unfold View.union at this
  cases hF:F b with
  | none=>rw [hF]at this;exact this
  | some x=>rw [hF]at this;cases this
 obtain⟨N,gs',w',sl',t',q',S',v',g',h1,h2,h3,h4,h5⟩:=k gs w sl t q S {hB with agree:=h.agree hB.agree,apart:=hap }
 have hF:=Lift.mine hB.agree
 obtain⟨l1,l2,l3,l4,l5⟩:=h.step hF h3.agree h3.keep h3.dom h3.own
 refine⟨N,gs',w',sl',t',q',S',F.union v',g',h1,{h2 with agree:=l2,apart:=fun b hb=>?_ },⟨l2,h3.tape,h3.output,h3.os,h3.size,l3,l4,l5⟩,fun b hb=>(h4 b hb).imp id (Or.imp (fun e=>h.owns e) id),v',rfl,l1,h5⟩
 have hFb:F b=none:=by
  rcases h4 b hb with e|e|e
  ·have:=hB.apart b e
   unfold View.union at this
   cases hF':F b with
   | none=>rfl
   | some x=>rw [hF']at this;cases this
  ·exact h.none e
  ·cases hF':F b with
   | none=>rfl
   | some x=>exact absurd (hF.lt hF') oM
 unfold View.union
 rw [hFb]
 exact h2.apart b hb
def roV(v:View):View:=fun b=>(v b).map fun x=>(false,x.2)
end
section
variable{P:Program}{mn:Who}{Stop:View→Goroutine→Prop}{v:View}{b c:Frame}{k:List Item}{cs:List Frame}{a:Act}{ops:Array Oper}{i:Nat}{rest:List Nat}{d:Nat}{ats:Array TypeId}{ty:TypeId}{pos:String}{af:Array Edge}{gu:Option (Nat×Bool)}
theorem recOp_run{ev:Operand→Value}(w:World):(execOp ev ⟨some d,.call {callee:=.builtin .recover,args:=#[],argTypes:=ats },ty,pos,af,gu⟩).runT P w #[]=(.ok .recover w,#[]):=by
 unfold execOp
 simp [resolve,invoke,builtin,Sem.runT,Sem.bind]
theorem recOp_step{fr:Frame}{w:World}(hk:(fr.kind==CallKind.early)=false)(hr:fr.roundOf=none){ev:Operand→Value} :
  stepG.apply P true fr cs none (execOp ev ⟨some d,.call {callee:=.builtin .recover,args:=#[],argTypes:=ats },ty,pos,af,gu⟩) w =
   match tryRecover fr cs with
   | some (x,callers)=>.go {frame:=fr.finish x,callers,status:=.running,dying:=none } w
   | none=>.go {frame:=fr.finish .nilIface,callers:=cs,status:=.running,dying:=none } w:=by
 unfold stepG.apply
 simp only [if_true,recOp_run,hk,Bool.false_eq_true,if_false,hr,seen_none]
 cases h:tryRecover fr cs with
 | none=>simp [GStep.after]
 | some p=>obtain⟨x,cl⟩:=p;simp [GStep.after]
theorem run_recN(hk:b.kind = .deferred)(hr:b.roundOf=none)(ho:ops[i]?=some ⟨some d,.call {callee:=.builtin .recover,args:=#[],argTypes:=ats },ty,pos,af,gu⟩)(hw:Region.wanted ⟨some d,.call {callee:=.builtin .recover,args:=#[],argTypes:=ats },ty,pos,af,gu⟩ (yielded ops a.tmps)=true)
  (hm:c.mode = .returning)(h:Run P mn Stop v (G (b.on (a.put (some d) .nilIface) (.inRegion ops rest::k)) (c::cs))):Run P mn Stop v (G (b.on a (.inRegion ops (i::rest)::k)) (c::cs)):=by
 refine Run.ctl Y (fun w=>?_) h
 rw [A2f ho hw (.inl hr),recOp_step (by simp [Frame.on,hk]) (by simp [Frame.on,hr])]
 have:tryRecover (b.on a (.inRegion ops (i::rest)::k)) (c::cs)=none:=by
  unfold tryRecover
  simp [Frame.on,hk,hm]
 rw [this,A2o b a ops i rest k _ .nilIface ho]
 rfl
theorem run_recP{x:Value}(hk:b.kind = .deferred)(hr:b.roundOf=none)(ho:ops[i]?=some ⟨some d,.call {callee:=.builtin .recover,args:=#[],argTypes:=ats },ty,pos,af,gu⟩)(hw:Region.wanted ⟨some d,.call {callee:=.builtin .recover,args:=#[],argTypes:=ats },ty,pos,af,gu⟩ (yielded ops a.tmps)=true)
  (hm:c.mode = .panicking [⟨x,false,false⟩])(h:Run P mn Stop v (G (b.on (a.put (some d) x) (.inRegion ops rest::k)) ({c with mode:=.panicking [⟨x,true,false⟩] }::cs))):Run P mn Stop v (G (b.on a (.inRegion ops (i::rest)::k)) (c::cs)):=by
 refine Run.ctl Y (fun w=>?_) h
 rw [A2f ho hw (.inl hr),recOp_step (by simp [Frame.on,hk]) (by simp [Frame.on,hr])]
 have:tryRecover (b.on a (.inRegion ops (i::rest)::k)) (c::cs)=some (x,{c with mode:=.panicking [⟨x,true,false⟩] }::cs):=by
  unfold tryRecover
  simp [Frame.on,hk,hm]
 rw [this,←A2o b a ops i rest k _ x ho]
 rfl
theorem run_leaveD{fr:Frame}{fn:Func}(hm:fr.mode = .returning)(hd:fr.defers=[])(hk:fr.kind = .deferred)(hf:P.funcs[fr.fn]?=some fn)(hres:fn.results=#[])(hc:c.mode = .returning)(h:Run P mn Stop v (G c cs)):Run P mn Stop v (G fr (c::cs)):=by
 refine Run.ctl Y (fun w=>?_) h
 simp [G,stepG,unwind,hm,hd,hf,results,hres,doReturn,hk,hc,GStep.after,seen_none,Sem.runT,Sem.bind]
theorem run_leaveP{fr:Frame}{fn:Func}{x:Value}(hm:fr.mode = .returning)(hd:fr.defers=[])(hk:fr.kind = .deferred)(hf:P.funcs[fr.fn]?=some fn)(hres:fn.results=#[])(hc:c.mode = .panicking [⟨x,true,false⟩])(h:Run P mn Stop v (G {c with mode:=.returning } cs)):Run P mn Stop v (G fr (c::cs)):=by
 refine Run.ctl Y (fun w=>?_) h
 simp [G,stepG,unwind,hm,hd,hf,results,hres,doReturn,hk,hc,GStep.after,seen_none,Sem.runT,Sem.bind]
theorem run_end{fn:Func}(hr:b.roundOf=none)(hds:a.defers=[])(hk:b.kind = .deferred)(hf:P.funcs[b.fn]?=some fn)(hres:fn.results=#[])(hc:c.mode = .returning∨∃x,c.mode = .panicking [⟨x,true,false⟩])(h:Run P mn Stop v (G {c with mode:=.returning } cs)):Run P mn Stop v (G (b.on a []) (c::cs)):=by
 refine Run.ctl Y (g':=G {b.on a []with mode:=.returning } (c::cs)) (fun w=>by simp [G,stepG,stepG.exec,Frame.on,hr]) ?_
 rcases hc with hc|⟨x,hc⟩
 ·refine run_leaveD Y hds hk hf hres hc ?_
  have:({c with mode:=.returning }:Frame)=c:=by cases c;simp only at hc;subst hc;rfl
  rw [this]at h;exact h
 ·exact run_leaveP Y hds hk hf hres hc h
end
section
variable{P:Program}{mn:Who}{Stop:View→Goroutine→Prop}{v:View}{b:Frame}{cs:List Frame}{a:Act}{n:Nat}
theorem run_tail{R:St→View→Prop}{ops:Array Oper}{l:List Nat}{c:Code}{σ:St}{u:View}(hk:b.kind≠.early)(hr:b.roundOf=none)(h:XO P mn none n ops l (SeqQ P mn none n c (fun e σ u=>e = .normal∧R σ u)) σ u)(hf:Fits n σ a)(hb:Bok σ.β u)(hl:(u.union (A0c σ.β)).Le v)
  (hq:∀σ' u' a',R σ' u'→Fits n σ' a'→Bok σ'.β u'→Run P mn Stop (u'.union (A0c σ'.β)) (G (b.on a' []) cs)):Run P mn Stop v (G (b.on a (.inRegion ops l::[.code c])) cs):=by
 refine((h a hf hb) Stop b [.code c] cs hk hr (fun e a' v' hP=>?_)).weaken hl
 obtain⟨σ',u',hQ,hf',hb',hl'⟩:=hP
 cases e with
 | normal=>
  simp only [SeqQ]at hQ
  refine((show XC P mn none n c (fun e σ u=>e = .normal∧R σ u) σ' u' from hQ) a' hf' hb' Stop b [] cs hk hr (fun e a2 v2 hP2=>?_)).weaken hl'
  obtain⟨σ2,u2,⟨rfl,hR⟩,hf2,hb2,hl2⟩:=hP2
  exact(hq _ _ _ hR hf2 hb2).weaken hl2
 | _=>simp only [SeqQ]at hQ;exact absurd hQ.1 sM
end
section
variable{P:Program}{mn:Who}(T:Tab P){rd:Option Nat}{n:Nat}{Q:Exit→St→View→Prop}{ds:List Deferred}{ρ:Regs}{β:A0f}{v:View}{K:St→View→Prop}
 {ops:Array Oper}{i:Nat}{d:Nat}{ty:TypeId}{pos:String}{af:Array Edge}{gu:Option (Nat×Bool)}
theorem XR_at{l:List Oper}{todo:List Nat}{σ:St}(hd:ops.toList.drop i=l)(ht:List.range' i l.length=todo)(h:XR P mn rd n ops i l Q σ v):XO P mn rd n ops todo Q σ v:=ht ▸ h hd
theorem A_neqNil{t t2:TypeId}{y:Operand}{x:Value}{ms:Array (String×TypeId)}{r:Bool}(ho:ops[i]?=some ⟨some d,.binOp .neq t y (.const .nilIface) t2,ty,pos,af,gu⟩)(hw:A0r ops gu ρ=some true)(hn:Nat.blt d n=true)(hy:ρ.val y=some x)(ht:T.und t=some (.interface ms))
  (hx:(r=false∧x = .nilIface)∨(r=true∧∃tx vx,x = .iface tx vx))(h:K ⟨ds,(d,.bool r)::ρ,β⟩ v):XOp P mn rd n ops i Q K ⟨ds,ρ,β⟩ v:=by
 refine A1u ho (A0l hw) (.inr Y) hn fun ev hev hbk=>?_
 have hc:ev (.const .nilIface) = .nilIface:=hev _ _ Y
 rcases hx with ⟨rfl,rfl⟩|⟨rfl,tx,vx,rfl⟩
 ·simp only [execOp,A0b,hev _ _ hy,hc,eqGuard,binOp,Op.equal]
  simp only [Bool.or_true,if_true,Bool.not_true,Bool.false_eq_true,if_false,A0h,A0b]
  unfold Op.equalIn
  simp only [Op.maxDepth,A0b,A1h T ht,A0h,Bool.not_true]
  exact⟨β,v,⟨hbk,Le.refl _⟩,h⟩
 ·simp only [execOp,A0b,hev _ _ hy,hc,eqGuard,binOp,Op.equal]
  simp only [Bool.not_true,Bool.false_eq_true,if_false,A0h,A0b]
  unfold Op.equalIn
  simp only [Op.maxDepth,A0b,A1h T ht,A0h,Bool.not_false]
  exact⟨β,v,⟨hbk,Le.refl _⟩,h⟩
end
section
variable{P:Program}{mn:Who}{v:View}{Stop:View→Goroutine→Prop}
theorem A8y{fop:Operand}{params:Array Tmp}{assign body:Code}{a:Act}{kf:FuncId}{first captured:Array Value}{b:Frame}{k:List Item}{cs:List Frame}(hb:b.kind≠.early)(hr:b.roundOf=none)
  (hf:a.eval fop = .func (.func kf) first captured)(hk:A0i P kf)
  (h:∀r l,v r=none→v l=none→r≠l→∀c:Frame,c.mode = .run→
   (∀(Stop:View→Goroutine→Prop) x u lp,u l=some (true,.loop lp)→lp.state≠.busy→Run P mn Stop (u.set l true (.loop {lp with state:=.exhausted })) (G (b.on ⟨a.tmps,{target:=.collected r,args:=#[] }::a.defers⟩ ((lp.pending.map Item.code).toList++k)) cs)→Run P mn Stop u (G (c.finish x) cs))→
   Run P mn Stop ((v.set r true (.deferred (some []))).set l true (.loop {state:=.ready,pending:=none,fn:=b.fn,tmps:=a.tmps,params:=params,assign:=assign,body:=body,defers:=r })) (G (Frame.enter P kf (first++#[.func (.yield l) #[] #[]]++captured) .normal) (c::cs))) :
  Run P mn Stop v (G (b.on a (.code (.rangeFunc fop params assign body)::k)) cs):=by
 have hbr:∀(c:Act) (its:List Item),({b.on c its with roundOf:=none }:Frame)=b.on c its:=fun c its=>by
  unfold Frame.on
  rw [←hr]
 have hev:(b.on a (.code (.rangeFunc fop params assign body)::k)).eval fop = .func (.func kf) first captured:=by rw [eval_on];exact hf
 let m:Sem (Nat×List Deferred×Next):=(Instr.enterLoop b.fn a.tmps params assign body none) >>= fun p=>(callFunc kf (first++#[.func (.yield p.1) #[] #[]]++captured)) >>= fun nx=>pure (p.1,p.2,nx)
 refine A6b (m:=m) (K:=fun p u=>∃r,v r=none∧v p.1=none∧r≠p.1∧p.2.1=[{target:=.collected r,args:=#[] }]∧p.2.2 = .enter kf (first++#[.func (.yield p.1) #[] #[]]++captured)∧
   u=(v.set r true (.deferred (some []))).set p.1 true (.loop {state:=.ready,pending:=none,fn:=b.fn,tmps:=a.tmps,params:=params,assign:=assign,body:=body,defers:=r })) (E:=fun _ _=>False) rfl ?_ (fun p u hp=>?_) (fun x v' hx=>hx.elim)
 ·simp only [m,A0b]
  unfold Instr.enterLoop
  simp only [A0b]
  intro r hvr
  simp only [A0h,A0b]
  intro l hl
  have hlr:r≠l:=by
   intro e;subst e;simp [View.set]at hl
  have hvl:v l=none:=by
   unfold View.set at hl;rwa [if_neg (fun e=>hlr e.symm)]at hl
  exact A5c hk ⟨r,hvr,hvl,hlr,Y,Y,Y⟩
 ·obtain⟨l,mark,nx⟩:=p
  obtain⟨r,h1,h2,h3,h4,h5,h6⟩:=hp
  simp only at h1 h2 h3 h4 h5 h6
  subst h4 h5 h6
  have hbe:((b.on a (.code (.rangeFunc fop params assign body)::k)).kind==CallKind.early)=false:=by simpa [Frame.on]using hb
  refine⟨G (Frame.enter P kf (first++#[.func (.yield l) #[] #[]]++captured) .normal) (b.on ⟨a.tmps,{target:=.collected r,args:=#[] }::a.defers⟩ (.inRangeFunc l::k)::cs),fun w w' es hrun=>?_,?_⟩
  ·have hr':(b.on a (.code (.rangeFunc fop params assign body)::k)).roundOf=none:=hr
   cases e1:(Instr.enterLoop b.fn a.tmps params assign body none).runT P w #[]with
   | mk r1 es1=>
    cases r1 with
    | halt hh w1=>
     exfalso
     have:m.runT P w #[]=(.halt hh w1,es1):=by
      show(Sem.bind _ _).runT P w #[]=_
      rw [Sem.runT_bind',e1]
     rw [this]at hrun;cases hrun
    | ok p w1=>
     have e2:(callFunc kf (first++#[.func (.yield p.1) #[] #[]]++captured)).runT P w1 es1=(.ok (.enter kf (first++#[.func (.yield p.1) #[] #[]]++captured)) w1,es1):=by
      obtain⟨fn,c,q1,q2,q3⟩:=hk
      unfold callFunc
      simp [q1,q2,q3,Sem.runT,Sem.bind]
     have e3:m.runT P w #[]=(.ok (p.1,p.2,.enter kf (first++#[.func (.yield p.1) #[] #[]]++captured)) w1,es1):=by
      show(Sem.bind _ _).runT P w #[]=_
      rw [Sem.runT_bind',e1]
      show(Sem.bind _ _).runT P w1 es1=_
      rw [Sem.runT_bind',e2]
      rfl
     rw [e3]at hrun
     simp only [Prod.mk.injEq,Result.ok.injEq]at hrun
     obtain⟨⟨⟨hp1,hp2,_⟩,hw⟩,hes⟩:=hrun
     have e4:(callFunc kf (first++#[.func (.yield l) #[] #[]]++captured)).runT P w1 #[]=(.ok (.enter kf (first++#[.func (.yield l) #[] #[]]++captured)) w1,#[]):=by
      obtain⟨fn,c,q1,q2,q3⟩:=hk
      unfold callFunc
      simp [q1,q2,q3,Sem.runT,Sem.bind]
     refine⟨seen P b.fn es1++(seen P b.fn #[]++#[]),?_,fun e he=>?_⟩
     ·have s1:stepG P mn.main (G (b.on a (.code (.rangeFunc fop params assign body)::k)) cs) w=stepG.exec P mn.main true (b.on a (.code (.rangeFunc fop params assign body)::k)) cs none w:=by simp [G,stepG,Frame.on]
      rw [s1]
      unfold stepG.exec
      simp only [show(b.on a (.code (.rangeFunc fop params assign body)::k)).todo = .code (.rangeFunc fop params assign body)::k from Y,show(b.on a (.code (.rangeFunc fop params assign body)::k)).fn=b.fn from Y,
       show(b.on a (.code (.rangeFunc fop params assign body)::k)).tmps=a.tmps from Y,hr',e1]
      unfold stepG.apply
      have e5:∀(fr:Frame),fr.eval fop = .func (.func kf) first captured→(do let d ←resolve fr.eval {callee:=.value fop,args:=#[.const (.func (.yield p.1) #[] #[])],argTypes:=#[] } 0;invoke d.target d.args:Sem Next)=callFunc kf (first++#[.func (.yield p.1) #[] #[]]++captured):=by
       intro fr hfr
       have ha:(#[Operand.const (.func (.yield p.1) #[] #[])]:Array Operand).map fr.eval=#[.func (.yield p.1) #[] #[]]:=by simp [Frame.eval]
       unfold resolve
       simp only [ha,hfr,Deferred.ofValue]
       rfl
      rw [e5 _ (by exact hev)]
      rw [hp1,hp2,hw]at *
      simp only [if_true,e4]
      rw [show(b.on a (.code (.rangeFunc fop params assign body)::k)).kind=b.kind from rfl]at *
      simp only [hbe,Bool.false_eq_true,if_false]
      rw [←hbr ⟨a.tmps,{target:=.collected r,args:=#[] }::a.defers⟩ (.inRangeFunc l::k)]
      rfl
     ·rw [←hes]
      simp only [Array.mem_append]at he
      rcases he with he|he|he
      ·exact mem_seen he
      ·rw [seen_none]at he;exact absurd he sM
      ·exact absurd he sM
  ·refine h r l h1 h2 h3 _ Y fun Stop x u lp hu hns hgo=>?_
   rw [show(b.on ⟨a.tmps,{target:=.collected r,args:=#[] }::a.defers⟩ (.inRangeFunc l::k)).finish x=b.on ⟨a.tmps,{target:=.collected r,args:=#[] }::a.defers⟩ (.endRangeFunc l::k)from rfl]
   refine A6b (m:=Instr.endLoop l) (K:=fun j w=>j=lp.pending∧w=u.set l true (.loop {lp with state:=.exhausted })) (E:=fun _ _=>False) rfl ?_ (fun j w hj=>?_) (fun x v' hx=>hx.elim)
   ·unfold Instr.endLoop Instr.getLoop
    simp only [A0b]
    refine A7h hu Y Y ?_
    rw [A0h,if_neg (by simpa using hns),A0b]
    refine A6e hu Y Y ?_
    exact⟨Y,Y⟩
   ·obtain⟨rfl,rfl⟩:=hj
    refine⟨G (b.on ⟨a.tmps,{target:=.collected r,args:=#[] }::a.defers⟩ ((lp.pending.map Item.code).toList++k)) cs,fun w w' es hrun=>⟨seen P b.fn es++#[],?_,fun e he=>mem_seen (by simpa using he)⟩,hgo⟩
    have h1:stepG P mn.main (G (b.on ⟨a.tmps,{target:=.collected r,args:=#[] }::a.defers⟩ (.endRangeFunc l::k)) cs) w=stepG.exec P mn.main true (b.on ⟨a.tmps,{target:=.collected r,args:=#[] }::a.defers⟩ (.endRangeFunc l::k)) cs none w:=by simp [G,stepG,Frame.on]
    rw [h1]
    unfold stepG.exec
    simp only [show(b.on ⟨a.tmps,{target:=.collected r,args:=#[] }::a.defers⟩ (.endRangeFunc l::k)).todo = .endRangeFunc l::k from Y,hrun]
    rfl
abbrev rdF(f:FuncId)(l:Nat):Frame:={fn:=f,tmps:=#[],todo:=[],defers:=[],mode:=.run,kind:=.normal,roundOf:=some l }
theorem run_round{l:Nat}{f:FuncId}{tmps:Array Value}{assign body:Code}{lp:Loop}(hl:v l=some (true,.loop lp))(hs:lp.state = .ready){c:Frame}{cs:List Frame}
  {M:Act→View→Prop}(ha:wpX P mn (some l) assign (fun e a u=>e = .normal∧u l=some (true,.loop lp)∧M a u) ⟨tmps,[]⟩ v)
  (h:∀a u,u l=some (true,.loop lp)→M a u→(∀(Stop:View→Goroutine→Prop) a' u',u' l=some (true,.loop {lp with state:=.busy })→Run P mn Stop (u'.set l true (.loop {lp with state:=.ready,pending:=none })) (G (c.finish (.bool true)) cs)→Run P mn Stop u' (G ((rdF f l).on a' []) (c::cs)))→
   (∀(Stop:View→Goroutine→Prop) a' its u',u' l=some (true,.loop {lp with state:=.busy })→Run P mn Stop (u'.set l true (.loop {lp with state:=.done,pending:=some .ret })) (G (c.finish (.bool false)) cs)→Run P mn Stop u' (G ((rdF f l).on a' (.code .ret::its)) (c::cs)))→
   Run P mn Stop (u.set l true (.loop {lp with state:=.busy })) (G ((rdF f l).on a [.code body]) (c::cs))) :
  Run P mn Stop v (G (Frame.round l f tmps assign body .normal) (c::cs)):=by
 have henter:Frame.round l f tmps assign body .normal=(rdF f l).on ⟨tmps,[]⟩ [.code assign,.beginRound,.code body]:=by simp [Frame.round,Frame.on,rdF]
 rw [henter]
 refine ha Stop (rdF f l) _ (c::cs) (by simp [rdF]) Y fun e a u ⟨he,hu,hM⟩=>?_
 subst he
 refine A6b (m:=Instr.beginRound l) (K:=fun _ u'=>u'=u.set l true (.loop {lp with state:=.busy })) (E:=fun _ _=>False) rfl ?_ (fun _ u' hu'=>?_) (fun x v' hx=>hx.elim)
 ·unfold Instr.beginRound Instr.getLoop
  simp only [A0b]
  refine A7h hu Y Y ?_
  refine A6e hu Y Y ?_
  simp only [hs]
  rfl
 ·subst hu'
  refine⟨G ((rdF f l).on a [.code body]) (c::cs),fun w w' es hrun=>⟨seen P (rdF f l).fn es++#[],?_,fun e he=>mem_seen (by simpa using he)⟩,?_⟩
  ·have h1:stepG P mn.main (G ((rdF f l).on a (.beginRound::[.code body])) (c::cs)) w=stepG.apply P true ((rdF f l).on a (.beginRound::[.code body])) (c::cs) none (do Instr.beginRound l;pure .skip) w:=by
    simp [G,stepG,stepG.exec,Frame.on,rdF]
   rw [h1]
   have h2:(do Instr.beginRound l;pure .skip:Sem Next).runT P w #[]=(.ok .skip w',es):=by
    show(Sem.bind _ _).runT P w #[]=_
    rw [Sem.runT_bind',hrun]
    rfl
   unfold stepG.apply
   simp only [if_true,h2,show(((rdF f l).on a (.beginRound::[.code body])).kind==CallKind.early)=false from Y,Bool.false_eq_true,if_false]
   rfl
  ·have leave:∀(Stop:View→Goroutine→Prop) (j:Option Code) (a':Act) (its:List Item) (u':View),(j=none∧its=[]∨∃r,j=some .ret∧its = .code .ret::r)→u' l=some (true,.loop {lp with state:=.busy })→
     Run P mn Stop (u'.set l true (.loop {lp with state:=if j.isNone then .ready else .done,pending:=j })) (G (c.finish (.bool j.isNone)) cs)→Run P mn Stop u' (G ((rdF f l).on a' its) (c::cs)):=fun Stop j a' its u' hj hu' hr=>by
    refine A6b (m:=Instr.endRound l j) (K:=fun x w=>x = .bool j.isNone∧w=u'.set l true (.loop {lp with state:=if j.isNone then .ready else .done,pending:=j })) (E:=fun _ _=>False) rfl ?_ (fun x w hx=>?_) (fun x v' hx=>hx.elim)
    ·unfold Instr.endRound Instr.getLoop
     simp only [A0b]
     refine A7h hu' Y Y ?_
     exact A6e hu' Y Y ⟨Y,Y⟩
    ·obtain⟨rfl,rfl⟩:=hx
     refine⟨G (c.finish (.bool j.isNone)) cs,fun w w' es hrun=>⟨seen P (rdF f l).fn es++#[],?_,fun e he=>mem_seen (by simpa using he)⟩,hr⟩
     have h1:stepG P mn.main (G ((rdF f l).on a' its) (c::cs)) w=stepG.exec P mn.main true ((rdF f l).on a' its) (c::cs) none w:=by simp [G,stepG,Frame.on,rdF]
     rw [h1]
     unfold stepG.exec
     rcases hj with ⟨rfl,rfl⟩|⟨r,rfl,rfl⟩
     ·simp only [show((rdF f l).on a' []).todo=[]from Y,show((rdF f l).on a' []).roundOf=some l from Y,hrun]
      rfl
     ·simp only [show((rdF f l).on a' (.code .ret::r)).todo = .code .ret::r from Y,show((rdF f l).on a' (.code .ret::r)).roundOf=some l from Y,hrun]
      rfl
   exact h a u hu hM (fun Stop a' u' hu' hr=>leave Stop none a' [] u' (.inl ⟨Y,Y⟩) hu' hr) fun Stop a' its u' hu' hr=>leave Stop (some .ret) a' _ u' (.inr ⟨its,Y,Y⟩) hu' hr
theorem run_yield{ops:Array Oper}{i:Nat}{rest:List Nat}{d:Nat}{ty:TypeId}{pos:String}{af:Array Edge}{gu:Option (Nat×Bool)}{f:Operand}{args:Array Operand}{ats:Array TypeId}{l:Nat}{xs:List Value}{lp:Loop}{b:Frame}{k:List Item}{cs:List Frame}{a:Act}
  (hb:b.kind≠.early)(ho:ops[i]?=some ⟨some d,.call {callee:=.value f,args:=args,argTypes:=ats },ty,pos,af,gu⟩)(hw:Region.wanted ⟨some d,.call {callee:=.value f,args:=args,argTypes:=ats },ty,pos,af,gu⟩ (yielded ops a.tmps)=true)
  (hf:a.eval f = .func (.yield l) #[] #[])(hxs:args.map a.eval=xs.toArray)(hl:v l=some (true,.loop lp))(hn:xs.length=lp.params.size)
  (h:∀c:Frame,c.mode = .run→(∀x,c.finish x=b.on (a.put (some d) x) (.inRegion ops rest::k))→Run P mn Stop v (G (Frame.round l lp.fn ((lp.params.zip xs.toArray).foldl (fun tmps (t,a)=>tmps.setIfInBounds t a) lp.tmps) lp.assign lp.body .normal) (c::cs))) :
  Run P mn Stop v (G (b.on a (.inRegion ops (i::rest)::k)) cs):=by
 have hk':((b.on a (.inRegion ops (i::rest)::k)).kind==CallKind.early)=false:=by simpa [Frame.on]using hb
 have hst:=fun w=>A2f (P:=P) (mn:=mn) (b:=b) (k:=k) (cs:=cs) (w:=w) (rest:=rest) ho hw (.inr Y)
 refine A6b (m:=execOp a.eval ⟨some d,.call {callee:=.value f,args:=args,argTypes:=ats },ty,pos,af,gu⟩) (K:=fun nx u=>nx = .round l lp.fn ((lp.params.zip xs.toArray).foldl (fun tmps (t,a)=>tmps.setIfInBounds t a) lp.tmps) lp.assign lp.body∧u=v) (E:=fun _ _=>False) Y ?_ (fun nx u hnx=>?_) (fun x v' hx=>hx.elim)
 ·unfold execOp
  simp only [resolve,Deferred.ofValue,hf,hxs,A0b,A0h,invoke]
  have he:(#[]++xs.toArray:Array Value)=xs.toArray:=by simp
  rw [he]
  unfold Instr.yield Instr.getLoop
  simp only [A0b]
  refine A7h hl Y Y ?_
  have:¬(xs.toArray.size≠lp.params.size):=by simpa using hn
  simp only [A0h]
  rw [if_neg this]
  exact⟨Y,Y⟩
 ·obtain⟨rfl,rfl⟩:=hnx
  refine⟨_,fun w w' es hrun=>⟨seen P b.fn es++#[],?_,fun e he=>mem_seen (by simpa using he)⟩,h (b.on a (.inRegion ops (i::rest)::k)) Y fun x=>A2o b a ops i rest k _ x ho⟩
  have hst:=hst w
  rw [hst]
  unfold stepG.apply
  simp only [if_true,hrun,hk',Bool.false_eq_true,if_false]
  rfl
end
end Go.Pal
end
