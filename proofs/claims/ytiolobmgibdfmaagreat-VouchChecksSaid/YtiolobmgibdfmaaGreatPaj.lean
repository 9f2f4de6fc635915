/- Part 10. -/
import Derived.Conc.AtomicLaws2
import Derived.Conc.ClockLaws
import Derived.Conc.DeferLaws
import Derived.Conc.MarkLaws
import Derived.Conc.Own2
import Derived.Conc.Own4
import Derived.Conc.SmallLaws
import Derived.Laws.LoneSync
import Derived.Test.YtiolobmgibdfmaaGreatPai
set_option linter.all false
section
namespace Go.Pal
open Go Go.Conc View
theorem A2r(v:View):v.union (A0e [])=v:=by
 funext b;unfold View.union;cases v b<;>rfl
theorem B3u(v:View):Bok [] v:=⟨by simp,fun _=>.inr Z⟩
class Sil(P:outParam Program)(main:outParam Bool)(R:Goroutine→Prop):Prop where
 step:∀{g g':Goroutine},g.status = .running→(∀w,stepG P main g w = .go g' w #[])→R g'→R g
instance {P:Program} {mn:Who} {Stop:View→Goroutine→Prop} {v:View}:Sil P mn.main (Run P mn Stop v):=⟨fun hs h r=>Run.ctl hs h r⟩
instance {P:Program} {main:Bool} {W:World→Prop} {Stop:View→Goroutine→Prop} {v:View}:Sil P main (RunW P main W Stop v):=
 ⟨fun {_ g'} hs h r=>.step hs (fun _=>g') (fun w=>w) (fun _=>#[]) (fun _=>v) (fun w _ hw=>⟨h w,.refl hw⟩) (fun _ _ _=>r)⟩
instance {P:Program} {Stop:Goroutine→Prop}:Sil P false (MRun P Stop):=⟨fun hs h r=>.step hs h r⟩
def B1w(P:Program)(d:Nat)(g:Goroutine):Prop:=∃q,QuitsD P q d g
instance {P:Program} {d:Nat}:Sil P false (B1w P d):=⟨fun hs h ⟨q,hq⟩=>⟨q+1,.inr ⟨hs,_,#[],by simp,h,by simpa [deafBehind]using hq⟩⟩⟩
def Pu{α:Type}(P:Program)(m:Sem α)(x:α):Prop:=∀w,m.run P w = .ok x w∧∀es,m.events P w es=es
theorem Pu.pure{α:Type}{P:Program}(x:α):Pu P (pure x) x:=fun w=>⟨Z,fun es=>rfl⟩
theorem Pu.bind{α β:Type}{P:Program}{m:Sem α}{f:α→Sem β}{x:α}{y:β}(h:Pu P m x)(k:Pu P (f x) y):Pu P (m >>= f) y:=fun w=>by
 refine⟨by rw [Sem.run_bind,(h w).1];exact(k w).1,fun es=>?_⟩
 rw [Sem.events_bind,(h w).1,(h w).2]
 exact(k w).2 es
theorem Pu.und{P:Program}{t:TypeId}{d:TypeDesc}(h:P.underlying t=some d):Pu P (underlying t) d:=fun w=>⟨by simp [underlying,h],fun es=>by simp⟩
theorem Pu.siz{P:Program}{T:Tab P}{t:TypeId}{n:Nat}(h:T.siz t=some n):Pu P (sizeOf t) n:=fun w=>by
 obtain⟨i,hi,rfl⟩:=T.siz_ok _ _ h
 exact⟨by simp [sizeOf,typeInfo,hi],fun es=>by simp⟩
def silOp(g:Operand→Option Value):Op→Bool
 | .move _ | .assign _ | .pick .. | .nilCheck _ | .unOp .. | .convert .. | .fieldAddr ..=>true
 | .binOp _ _ x y _=>match g x,g y with|some (.int _ _),some (.int _ _)=>true|_,_=>false
 | _=>false
theorem binVal_pu{P:Program}{T:Tab P}{op:BinOp}{t:TypeId}{k k':IntKind}{a b:Int}{x:Value}{y z:Operand}(h:A6l T op t (.int k a) (.int k' b)=some x):Pu P (do eqGuard op t y z (.int k a) (.int k' b);binOp op t (.int k a) (.int k' b)) x:=by
 have heq:eqGuard op t y z (.int k a) (.int k' b)=pure ():=by unfold eqGuard;cases op<;>rfl
 rw [heq]
 refine Pu.bind (Pu.pure ()) ?_
 simp only [A6l]at h
 split at h
 ·split at h
  ·cases h
  ·rename_i hb;cases h;simp only [binOp,Op.shift,if_neg hb];exact Pu.pure _
 ·split at h
  ·cases h
  ·rename_i hb;cases h;simp only [binOp,Op.shift,if_neg hb];exact Pu.pure _
 ·split at h
  ·rename_i hkk
   subst hkk
   split at h
   ·cases h
   ·rename_i hb;cases h;simp only [binOp,ne_eq,not_true_eq_false,if_false,Op.intDiv,if_neg hb];exact Pu.pure _
  ·cases h
 ·split at h
  ·rename_i hkk
   subst hkk
   split at h
   ·cases h
   ·rename_i hb;cases h;simp only [binOp,ne_eq,not_true_eq_false,if_false,Op.intDiv,if_neg hb];exact Pu.pure _
  ·cases h
 ·split at h
  ·rename_i hkk
   subst hkk
   cases op<;>simp only [B0t]at h<;>first|(cases h;done)|(cases h;simp only [binOp,Op.intArith,Op.intCmp,Op.intBits,ne_eq,not_true_eq_false,if_false];first|exact Pu.pure _|exact Pu.bind (Pu.pure _) (Pu.pure _))
  ·cases h
theorem evalOp_pu{P:Program}{T:Tab P}{g:Operand→Option Value}{ρ:Operand→Value}(hg:∀x y,g x=some y→ρ x=y){o:Oper}{x:Value}(hs:silOp g o.op=true)(h:A1z T g o.op=some x):Pu P (execOp ρ o) (.value x):=by
 obtain⟨dst,op,ty,pos,af,gu⟩:=o
 cases op with
 | move y=>simp only [A1z]at h;simp only [execOp,hg _ _ h];exact Pu.pure _
 | assign y=>simp only [A1z]at h;simp only [execOp,hg _ _ h];exact Pu.pure _
 | pick c a b=>
  simp only [A1z]at h
  split at h
  ·rename_i hc;simp only [execOp,hg _ _ hc,hg _ _ h,asBool];exact Pu.bind (Pu.pure _) (Pu.pure _)
  ·rename_i hc;simp only [execOp,hg _ _ hc,hg _ _ h,asBool];exact Pu.bind (Pu.pure _) (Pu.pure _)
  ·cases h
 | nilCheck y=>
  simp only [A1z]at h
  split at h<;>first|(cases h;done)|(rename_i hy;cases h;simp only [execOp,hg _ _ hy];exact Pu.pure _)
 | binOp op t y z t'=>
  simp only [A1z]at h
  simp only [silOp]at hs
  split at hs
  ·rename_i h1 h2
   rw [h1,h2]at h
   simp only [execOp,hg _ _ h1,hg _ _ h2]
   exact Pu.bind (binVal_pu h) (Pu.pure _)
  ·cases hs
 | unOp op t y=>
  cases op<;>simp only [A1z]at h<;>first|(cases h;done)|(split at h<;>first|(cases h;done)|(rename_i hy;cases h;simp only [execOp,hg _ _ hy];exact Pu.bind (Pu.pure _) (Pu.pure _)))
 | convert s d y=>
  simp only [A1z]at h
  split at h
  ·rename_i ds k k' n h1 h2 h3
   cases h
   simp only [execOp,hg _ _ h3,convert]
   refine Pu.bind (Pu.bind (Pu.und (T.und_ok _ _ h1)) (Pu.bind (Pu.und (T.und_ok _ _ h2)) ?_)) (Pu.pure _)
   cases ds<;>exact Pu.pure _
  ·rename_i ds k n h1 h2 h3
   cases h
   simp only [execOp,hg _ _ h3,convert]
   refine Pu.bind (Pu.bind (Pu.und (T.und_ok _ _ h1)) (Pu.bind (Pu.und (T.und_ok _ _ h2)) ?_)) (Pu.pure _)
   cases ds<;>exact Pu.pure _
  ·cases h
 | fieldAddr s y f=>
  simp only [A1z]at h
  split at h
  ·rename_i fs b off h1 h2
   split at h
   ·rename_i fd hf
    split at h
    ·rename_i n hn
     cases h
     have hadd:(⟨b,off,none⟩:Addr).add fd.offset=⟨b,off+fd.offset,none⟩:=by unfold Addr.add;split<;>simp_all
     simp only [execOp,hg _ _ h2,Instr.fieldAt,Instr.sureAddr,fieldPlace]
     refine Pu.bind (Pu.bind (Pu.und (T.und_ok _ _ h1)) ?_) (Pu.pure _)
     simp only [hf]
     refine Pu.bind (Pu.pure _) (Pu.bind (Pu.bind (Pu.siz hn) ?_) (Pu.pure _))
     rw [if_neg oM,hadd]
     exact Pu.pure _
    ·cases h
   ·cases h
  ·cases h
 | _=>cases hs
theorem A1i{b:Frame}(hr:b.roundOf=none)(c:Act)(its:List Item):b.on c its=b.at c its:=by simp [Frame.on,Frame.at,hr]
def _root_.Go.Frame.out(b:Frame)(a:Act)(its:List Item):Frame:={b.on a its with mode:=.returning }
structure Ext(P:Program)(f:FuncId)(fn:Func)(e:Array Value→Sem Value):Prop where
 hf:P.funcs[f]?=some fn
 hname:(fn.name == "runtime.NumGoroutine")=false
 hb:fn.body.isNone=true
 hn:Extern.findNext fn=none
 he:Extern.find fn=some e
def XG(R:Goroutine→Prop)(n:Nat)(b:Frame)(its:List Item)(cs:List Frame)(ds:List Deferred)(ρ:Regs):Prop:=
 ∀a,Fits n ⟨ds,ρ,[]⟩ a→R (G (b.on a its) cs)
def XB(R:Goroutine→Prop)(n:Nat)(b:Frame)(its:List Item)(cs:List Frame)(ds:List Deferred)(ρ:Regs):Prop:=
 ∀a,Fits n ⟨ds,ρ,[]⟩ a→R (G (b.out a its) cs)
section
variable{P:Program}(T:Tab P){main:Bool}{R:Goroutine→Prop}[S:Sil P main R]{n:Nat}{b:Frame}{k:List Item}{cs:List Frame}{ρ:Regs}{ds:List Deferred}
include S
theorem F_seq{x y:Code}(h:XG R n b (.code x::.code y::k) cs ds ρ):XG R n b (.code (.seq x y)::k) cs ds ρ:=fun a hf=>
 S.step rfl (fun w=>by simp [G,stepG,stepG.exec,Frame.on]) (h a hf)
theorem F_skip(h:XG R n b k cs ds ρ):XG R n b (.code .skip::k) cs ds ρ:=fun a hf=>
 S.step rfl (fun w=>by simp [G,stepG,stepG.exec,Frame.on]) (h a hf)
theorem F_label{l:Nat}(h:XG R n b k cs ds ρ):XG R n b (.code (.label l)::k) cs ds ρ:=fun a hf=>
 S.step rfl (fun w=>by simp [G,stepG,stepG.exec,Frame.on]) (h a hf)
theorem A4a{id:Nat}{c:Code}(h:XG R n b (.code c::.inBlock id::k) cs ds ρ):XG R n b (.code (.block id c)::k) cs ds ρ:=fun a hf=>
 S.step rfl (fun w=>by simp [G,stepG,stepG.exec,Frame.on]) (h a hf)
theorem B4x{id:Nat}(h:XG R n b k cs ds ρ):XG R n b (.inBlock id::k) cs ds ρ:=fun a hf=>
 S.step rfl (fun w=>by simp [G,stepG,stepG.exec,Frame.on]) (h a hf)
theorem F_exit{id:Nat}{k':List Item}(he:exitTo id k=some k')(h:XG R n b k' cs ds ρ):XG R n b (.code (.exit id)::k) cs ds ρ:=fun a hf=>
 S.step rfl (fun w=>by simp [G,stepG,stepG.exec,Frame.on,he]) (h a hf)
theorem F_scope{c:Code}(h:XG R n b (.code c::.inScope c::k) cs ds ρ):XG R n b (.code (.scope c)::k) cs ds ρ:=fun a hf=>
 S.step rfl (fun w=>by simp [G,stepG,stepG.exec,Frame.on]) (h a hf)
theorem B4w{c:Code}(h:XG R n b k cs ds ρ):XG R n b (.inScope c::k) cs ds ρ:=fun a hf=>
 S.step rfl (fun w=>by simp [G,stepG,stepG.exec,Frame.on]) (h a hf)
theorem F_loop{c:Code}(h:XG R n b (.code c::.inLoop c::k) cs ds ρ):XG R n b (.code (.loop c)::k) cs ds ρ:=fun a hf=>
 S.step rfl (fun w=>by simp [G,stepG,stepG.exec,Frame.on]) (h a hf)
theorem B2k{c:Code}(h:XG R n b (.code c::.inLoop c::k) cs ds ρ):XG R n b (.inLoop c::k) cs ds ρ:=fun a hf=>
 S.step rfl (fun w=>by simp [G,stepG,stepG.exec,Frame.on]) (h a hf)
theorem F_cond{c:Operand}{x y:Code}{t:Bool}(hc:ρ.val c=some (.bool t))(h:XG R n b (.code (if t then x else y)::k) cs ds ρ):XG R n b (.code (.cond c x y)::k) cs ds ρ:=fun a hf=>
 S.step rfl (g':=G (b.on a (.code (if t then x else y)::k)) cs) (fun w=>by
  have h':(b.on a (.code (.cond c x y)::k)).eval c = .bool t:=by rw [eval_on];exact A0o hf _ _ hc
  simp only [Frame.on]at h'
  simp [G,stepG,stepG.exec,Frame.on,h']) (h a hf)
theorem F_condT{c:Operand}{x y:Code}(hc:ρ.val c=some (.bool true))(h:XG R n b (.code x::k) cs ds ρ):XG R n b (.code (.cond c x y)::k) cs ds ρ:=F_cond hc h
theorem F_condF{c:Operand}{x y:Code}(hc:ρ.val c=some (.bool false))(h:XG R n b (.code y::k) cs ds ρ):XG R n b (.code (.cond c x y)::k) cs ds ρ:=F_cond hc h
theorem A2b{id:Nat}{ops:Array Oper}{l:List Nat}(hl:List.range ops.size=l)(h:XG R n b (.inRegion ops l::k) cs ds ρ):XG R n b (.code (.region id ops false)::k) cs ds ρ:=fun a hf=>
 S.step rfl (g':=G (b.on a (.inRegion ops (List.range ops.size)::k)) cs) (fun w=>by simp [G,stepG,stepG.exec,Frame.on]) (by rw [hl];exact h a hf)
theorem F_nil{ops:Array Oper}(h:XG R n b k cs ds ρ):XG R n b (.inRegion ops []::k) cs ds ρ:=fun a hf=>
 S.step rfl (fun w=>by simp [G,stepG,stepG.exec,Frame.on]) (h a hf)
variable{ops:Array Oper}{i:Nat}{rest:List Nat}{d:Nat}{op:Op}{ty:TypeId}{pos:String}{af:Array Edge}{gu:Option (Nat×Bool)}
theorem F_skipop(ho:ops[i]?=some ⟨some d,op,ty,pos,af,gu⟩)(hw:A0x ops gu ρ=some false)(hn:Nat.blt d n=true)(h:XG R n b (.inRegion ops rest::k) cs ds ((d,undef)::ρ)) :
  XG R n b (.inRegion ops (i::rest)::k) cs ds ρ:=fun a hf=>by
 refine S.step Z (g':=G (b.on (a.put (some d) undef) (.inRegion ops rest::k)) cs) (fun w=>?_) (h _ (A1h hf (show A3j n (some d)=true from hn)))
 have hw':=A0q (o:=⟨some d,op,ty,pos,af,gu⟩) hf (A0p hw)
 rw [←A5z b a ops i rest k _ undef ho]
 simp [G,stepG,stepG.exec,Frame.on,ho,hw']
theorem A0a{x:Value}(hk:b.kind≠.early)(hr:b.roundOf=none)(ho:ops[i]?=some ⟨some d,op,ty,pos,af,gu⟩)(hw:A0x ops gu ρ=some true)(hn:Nat.blt d n=true)(hs:silOp ρ.val op=true)(hx:A1z T ρ.val op=some x)(h:XG R n b (.inRegion ops rest::k) cs ds ((d,x)::ρ)) :
  XG R n b (.inRegion ops (i::rest)::k) cs ds ρ:=fun a hf=>by
 have hp:=evalOp_pu (T:=T) (o:=⟨some d,op,ty,pos,af,gu⟩) (A0o hf) hs hx
 refine S.step Z (g':=G (b.on (a.put (some d) x) (.inRegion ops rest::k)) cs) (fun w=>?_) (h _ (A1h hf (show A3j n (some d)=true from hn)))
 rw [A1i hr,A1i hr,stepG_value (v:=x) (w':=w) ho (A0q hf (A0p hw)) hk (hp w).1]
 unfold listed
 rw [(hp w).2]
 simp [seen_none]
def isMv:Op→Bool
 | .binOp .. | .convert ..=>false
 | _=>true
theorem F_mv{x:Value}(hk:b.kind≠.early)(hr:b.roundOf=none)(ho:ops[i]?=some ⟨some d,op,ty,pos,af,gu⟩)(hm:isMv op=true)(hw:A0x ops gu ρ=some true)(hn:Nat.blt d n=true)(hs:silOp ρ.val op=true)(hx:A1z T ρ.val op=some x)(h:XG R n b (.inRegion ops rest::k) cs ds ((d,x)::ρ)) :
  XG R n b (.inRegion ops (i::rest)::k) cs ds ρ:=A0a T hk hr ho hw hn hs hx h
theorem F_ext{f:FuncId}{fn:Func}{aS:Array Operand}{ats:Array TypeId}{e:Array Value→Sem Value}{x:Value}(hk:b.kind≠.early)(hr:b.roundOf=none)(ho:ops[i]?=some ⟨some d,.call {callee:=.value (.func f),args:=aS,argTypes:=ats },ty,pos,af,gu⟩)(hw:A0x ops gu ρ=some true)(hn:Nat.blt d n=true)
  (E:Ext P f fn e)(hp:∀l,Pu P (e l) x)(h:XG R n b (.inRegion ops rest::k) cs ds ((d,x)::ρ)):XG R n b (.inRegion ops (i::rest)::k) cs ds ρ:=fun a hf=>by
 refine S.step Z (g':=G (b.on (a.put (some d) x) (.inRegion ops rest::k)) cs) (fun w=>?_) (h _ (A1h hf (show A3j n (some d)=true from hn)))
 rw [A1i hr,A1i hr]
 exact stepG_entry ho (A0q hf (A0p hw)) hk Z E.hf E.hname E.hb E.hn E.he ((hp _) w).1 (by rw [((hp _) w).2];simp) sM
theorem F_defer{f:FuncId}{aS:Array Operand}{ats:Array TypeId}{xs:List Value}(hk:b.kind≠.early)(hr:b.roundOf=none)(ho:ops[i]?=some ⟨none,.defer {callee:=.value (.func f),args:=aS,argTypes:=ats },ty,pos,af,gu⟩)(hw:A0x ops gu ρ=some true)
  (hxs:A3q ρ.val aS.toList=some xs)(h:XG R n b (.inRegion ops rest::k) cs (dcall f xs.toArray::ds) ρ):XG R n b (.inRegion ops (i::rest)::k) cs ds ρ:=fun a hf=>by
 have ha:aS.map a.eval=xs.toArray:=Array.toList_inj.1 (by simpa using A3h (A0o hf) hxs)
 have hwt:=A0q (o:=⟨none,.defer {callee:=.value (.func f),args:=aS,argTypes:=ats },ty,pos,af,gu⟩) hf (A0p hw)
 refine S.step Z (g':=G (b.on ⟨a.tmps,dcall f xs.toArray::a.defers⟩ (.inRegion ops rest::k)) cs) (fun w=>?_) (h _ ⟨hf.size,by show _::_=_::_;rw [hf.defers],hf.get⟩)
 rw [A1i hr,A1i hr,stepG_defer ho hwt hk Z,ha]
 rfl
theorem A5b{f:Operand}{args:Array Operand}{ats:Array TypeId}{g:FuncId}{fn:Func}{c:Code}{first captured:Array Value}{xs ys:List Value}(hk:b.kind≠.early)(hr:b.roundOf=none)(ho:ops[i]?=some ⟨some d,.call {callee:=.value f,args:=args,argTypes:=ats },ty,pos,af,gu⟩)(hw:A0x ops gu ρ=some true)(hn:Nat.blt d n=true)
  (hf:ρ.val f=some (.func (.func g) first captured))(hxs:A3q ρ.val args.toList=some xs)(hfn:P.funcs[g]?=some fn)(hb:fn.body=some c)(hnm:fn.name≠ "runtime.NumGoroutine")(hys:first.toList++xs++captured.toList=ys)
  (h:∀cf:Frame,cf.mode = .run→(∀(R':Goroutine→Prop) (x:Value),XG R' n b (.inRegion ops rest::k) cs ds ((d,x)::ρ)→R' (G (cf.finish x) cs))→R (G (Frame.enter P g ys.toArray .normal) (cf::cs))) :
  XG R n b (.inRegion ops (i::rest)::k) cs ds ρ:=fun a hfit=>by
 have ha:args.map a.eval=xs.toArray:=Array.toList_inj.1 (by simpa using A3h (A0o hfit) hxs)
 have hwt:=A0q (o:=⟨some d,.call {callee:=.value f,args:=args,argTypes:=ats },ty,pos,af,gu⟩) hfit (A0p hw)
 have hst:=fun w=>A5k (P:=P) (mn:=⟨main,false⟩) (b:=b) (k:=k) (cs:=cs) (w:=w) (rest:=rest) ho hwt (.inl hr)
 have hk':((b.on a (.inRegion ops (i::rest)::k)).kind==CallKind.early)=false:=by simpa [Frame.on]using hk
 have hsem:∀w,(execOp a.eval ⟨some d,.call {callee:=.value f,args:=args,argTypes:=ats },ty,pos,af,gu⟩).runT P w #[]=(.ok (.enter g ys.toArray) w,#[]):=fun w=>by
  have e1:execOp a.eval ⟨some d,.call {callee:=.value f,args:=args,argTypes:=ats },ty,pos,af,gu⟩=callFunc g ys.toArray:=by
   have:(first++xs.toArray++captured:Array Value)=ys.toArray:=by rw [←hys];apply Array.ext';simp
   unfold execOp
   simp [resolve,Deferred.ofValue,invoke,A0o hfit _ _ hf,ha,←this]
  rw [e1]
  unfold callFunc
  show Sem.runT P (Sem.bind _ _) w #[]=_
  simp only [program,Sem.bind,Sem.runT,hfn]
  rw [if_neg (by simpa using hnm),if_neg (by simp [hb])]
  try rfl
 refine S.step Z (g':=G (Frame.enter P g ys.toArray .normal) (b.on a (.inRegion ops (i::rest)::k)::cs)) (fun w=>?_) (h _ Z fun R' x hx=>?_)
 ·have hst:=hst w
  dsimp only at hst
  rw [hst]
  unfold stepG.apply
  simp only [if_true,hsem w,hk',Bool.false_eq_true,if_false]
  rfl
 ·rw [A5z b a ops i rest k _ x ho]
  exact hx _ (A1h hfit (show A3j n (some d)=true from hn))
omit S in
theorem A3b{g:FuncId}{fn:Func}{c:Code}{ys:List Value}(hfn:P.funcs[g]?=some fn)(hb:fn.body=some c)(hle:ys.length≤fn.ntmps)
  {kd:CallKind}(h:∀bf:Frame,bf.kind=kd→bf.roundOf=none→bf.fn=g→XG R fn.ntmps bf [.code c] cs [] (A2z 0 ys)):R (G (Frame.enter P g ys.toArray kd) cs):=by
 let bf:Frame:={fn:=g,tmps:=#[],todo:=[],defers:=[],mode:=.run,kind:=kd }
 have henter:Frame.enter P g ys.toArray kd=bf.on {tmps:=ys.toArray++Array.replicate (fn.ntmps-ys.length) undef,defers:=[] } [.code c]:=by
  simp [Frame.enter,Frame.on,hfn,hb,bf]
 rw [henter]
 refine h bf Z Z Z _ ⟨?_,Z,?_⟩
 ·simp;omega
 ·have key:∀(l:List Value) (i t:Nat) (x:Value),(A2z i l).get t=some x→i≤t∧l[t-i]?=some x:=by
   intro l
   induction l with
   | nil=>intro i t x h;simp [A2z,Regs.get]at h
   | cons y l ih=>
    intro i t x h
    simp only [A2z,Regs.get]at h
    cases hb:Nat.beq i t with
    | true=>
     rw [hb]at h
     have:=Nat.eq_of_beq_eq_true hb
     subst this
     simp only [cond_true]at h
     exact⟨Nat.le_refl _,by simpa using h⟩
    | false=>
     rw [hb]at h
     obtain⟨h1,h2⟩:=ih (i+1) t x h
     refine⟨oM,?_⟩
     rw [show t-i=(t-(i+1))+1 by omega]
     simpa using h2
  intro t x hx
  obtain⟨_,h2⟩:=key ys 0 t x hx
  simp only [Nat.sub_zero]at h2
  obtain⟨hlt,_⟩:=List.getElem?_eq_some_iff.1 h2
  rw [Array.getElem?_append_left (by simpa using hlt)]
  simpa using h2
theorem B4f(hr:b.roundOf=none)(h:XB R n b [] cs ds ρ):XG R n b [] cs ds ρ:=fun a hf=>
 S.step rfl (g':=G (b.out a []) cs) (fun w=>by simp [G,stepG,stepG.exec,Frame.on,Frame.out,hr]) (h a hf)
theorem A6w(hr:b.roundOf=none)(h:XB R n b (.code .ret::k) cs ds ρ):XG R n b (.code .ret::k) cs ds ρ:=fun a hf=>
 S.step rfl (g':=G (b.out a (.code .ret::k)) cs) (fun w=>by simp [G,stepG,stepG.exec,Frame.on,Frame.out,hr]) (h a hf)
theorem A7h{fn:Func}{cf:Frame}(hk:b.kind = .normal)(hfn:P.funcs[b.fn]?=some fn)(hres:fn.results=#[])(h:R (G (cf.finish (.tuple #[])) cs)):XB R n b k (cf::cs) [] ρ:=fun a hf=>
 S.step rfl (g':=G (cf.finish (.tuple #[])) cs) (fun w=>by
  have h1:=hf.defers
  simp only at h1
  simp [G,stepG,unwind,Frame.out,Frame.on,h1,hfn,results,hres,doReturn,hk,GStep.after,seen_none,Sem.runT,Sem.bind]) h
theorem A9e{fn:Func}{cf:Frame}{t:Nat}{x:Value}(hk:b.kind = .normal)(hfn:P.funcs[b.fn]?=some fn)(hres:fn.results=#[.tmp t])(hx:ρ.get t=some x)(h:R (G (cf.finish x) cs)):XB R n b k (cf::cs) [] ρ:=fun a hf=>
 S.step rfl (g':=G (cf.finish x) cs) (fun w=>by
  have h1:=hf.defers
  have h2:=hf.get t x hx
  simp only at h1
  simp [G,stepG,unwind,Frame.out,Frame.on,h1,hfn,results,hres,h2,doReturn,hk,GStep.after,seen_none,Sem.runT,Sem.bind]) h
theorem B_retD{fn:Func}{cf:Frame}(hk:b.kind = .deferred)(hfn:P.funcs[b.fn]?=some fn)(hres:fn.results=#[])(hc:cf.mode = .returning)(h:R (G cf cs)):XB R n b k (cf::cs) [] ρ:=fun a hf=>
 S.step rfl (g':=G cf cs) (fun w=>by
  have h1:=hf.defers
  simp only at h1
  simp [G,stepG,unwind,Frame.out,Frame.on,h1,hfn,results,hres,doReturn,hk,hc,GStep.after,seen_none,Sem.runT,Sem.bind]) h
theorem B_retG{fn:Func}{cf:Frame}(hk:b.kind = .deferred)(hfn:P.funcs[b.fn]?=some fn)(hres:fn.results=#[])(hc:cf.mode = .panicking [goexitEntry])(h:R (G cf cs)):XB R n b k (cf::cs) [] ρ:=fun a hf=>
 S.step rfl (g':=G cf cs) (fun w=>by
  have h1:=hf.defers
  simp only at h1
  simp [G,stepG,unwind,Frame.out,Frame.on,h1,hfn,results,hres,doReturn,hk,hc,goexitEntry,GStep.after,seen_none,Sem.runT,Sem.bind]) h
theorem B_enter{f:FuncId}{fn:Func}{c:Code}{args:Array Value}(hr:b.roundOf=none)(hf':P.funcs[f]?=some fn)(hname:(fn.name == "runtime.NumGoroutine")=false)(hb:fn.body=some c)
  (h:∀cf:Frame,cf.mode = .returning→(∀R':Goroutine→Prop,XB R' n b k cs ds ρ→R' (G cf cs))→R (G (Frame.enter P f args .deferred) (cf::cs))):XB R n b k cs (dcall f args::ds) ρ:=fun a hf=>by
 refine S.step Z (g':=G (Frame.enter P f args .deferred) (b.out ⟨a.tmps,ds⟩ k::cs)) (fun w=>?_) (h _ Z fun R' hx=>hx _ ⟨hf.size,Z,hf.get⟩)
 have:=stepG_unwind_enter (main:=main) (b:=b) (a:=a) (cs:=cs) (w:=w) (todo:=k) (ds:=ds) (args:=args) hf.defers hf' hname hb
 simp only [Frame.out,A1i hr]
 rw [this,enter_atD args hf' hb]
end
section
variable{P:Program}{mn:Who}{W:World→Prop}{Stop:View→Goroutine→Prop}{n:Nat}{b:Frame}{k:List Item}{cs:List Frame}{ρ:Regs}{v:View}{ds:List Deferred}
abbrev XF(P:Program)(main:Bool)(W:World→Prop)(Stop:View→Goroutine→Prop)(n:Nat)(b:Frame)(its:List Item)(cs:List Frame)(ds:List Deferred)(ρ:Regs)(v:View):Prop:=XG (RunW P main W Stop v) n b its cs ds ρ
variable{ops:Array Oper}{i:Nat}{rest:List Nat}{d:Nat}{op:Op}{ty:TypeId}{pos:String}{af:Array Edge}{gu:Option (Nat×Bool)}
theorem F_code(hp:mn.ph=false){c:Code}{Q:Exit→St→View→Prop}(hk:b.kind≠.early)(h:XC P mn b.roundOf n c Q ⟨ds,ρ,[]⟩ v)
  (hq:∀e σ' v',Q e σ' v'→e = .normal∧∃ρ',σ'=⟨ds,ρ',[]⟩∧XF P mn.main W Stop n b k cs ds ρ' v'):XF P mn.main W Stop n b (.code c::k) cs ds ρ v:=fun a hf=>by
 refine RunW.of_run hp ?_
 have:=h a hf (B3u v) (fun u g=>RunW P mn.main W Stop u g) b k cs hk Z (fun e a' v' hQ=>by
  obtain⟨σ',u,h1,h2,h3,h4⟩:=hQ
  obtain⟨rfl,ρ',rfl,h5⟩:=hq e σ' u h1
  exact .stop (Le.refl _) ((h5 a' h2).weaken (by rw [A2r]at h4;exact h4)))
 rw [A2r]at this
 exact this
variable(T:Tab P)
end
section
variable{P:Program}{mn:Who}{Stop:View→Goroutine→Prop}{v:View}
theorem run_defer{fr:Frame}{cs:List Frame}{k:FuncId}{fn:Func}{args:Array Value}{ds:List Deferred}(hm:fr.mode = .returning∨∃ch,fr.mode = .panicking ch)(hd:fr.defers=dcall k args::ds)
  (hf:P.funcs[k]?=some fn)(hname:fn.name≠ "runtime.NumGoroutine")(hb:¬fn.body=none)(h:Run P mn Stop v (G (Frame.enter P k args .deferred) ({fr with defers:=ds }::cs))):Run P mn Stop v (G fr cs):=by
 refine Run.ctl Z (fun w=>?_) h
 rcases hm with hm|⟨ch,hm⟩<;>simp [G,stepG,hm,unwind,hd,dcall,callDeferred,invoke,callFunc,hf,hname,hb,GStep.after,seen_none]
theorem run_collected{fr:Frame}{cs:List Frame}{r:Nat}{ds:List Deferred}(hm:fr.mode = .returning)(hd:fr.defers={target:=.collected r,args:=#[] }::ds)(hr:v r=some (true,.deferred (some [])))
  (h:Run P mn Stop (v.set r true (.deferred none)) (G {fr with defers:=ds } cs)):Run P mn Stop v (G fr cs):=by
 refine A9h (m:=Instr.takeDeferred r) (K:=fun l u=>l=[]∧u=v.set r true (.deferred none)) (E:=fun _ _=>False) Z ?_ (fun l u hl=>?_) (fun x v' hx=>hx.elim)
 ·unfold Instr.takeDeferred
  rw [A0d]
  refine A4p hr Z Z ?_
  rw [A0d]
  exact A4o hr Z Z ⟨Z,Z⟩
 ·obtain⟨rfl,rfl⟩:=hl
  refine⟨G {fr with defers:=ds } cs,fun w w' es hrun=>⟨seen P fr.fn es++#[],?_,fun e he=>mem_seen (by simpa using he)⟩,h⟩
  have h1:stepG P mn.main (G fr cs) w=unwind P mn.main fr cs none w:=by simp [G,stepG,hm]
  rw [h1]
  unfold unwind
  simp only [hd,hrun]
  rfl
theorem B3o{fn:Func}{β:A0j}{args:List Value}(hn:args.length≤fn.ntmps):Fits fn.ntmps ⟨[],A2z 0 args,β⟩ {tmps:=args.toArray++Array.replicate (fn.ntmps-args.toArray.size) undef,defers:=[] }:=by
 refine⟨by simp;omega,Z,?_⟩
 have key:∀(l:List Value) (i t:Nat) (x:Value),(A2z i l).get t=some x→i≤t∧l[t-i]?=some x:=by
  intro l
  induction l with
  | nil=>intro i t x h;simp [A2z,Regs.get]at h
  | cons y l ih=>
   intro i t x h
   simp only [A2z,Regs.get]at h
   cases hb:Nat.beq i t with
   | true=>
    rw [hb]at h
    have:=Nat.eq_of_beq_eq_true hb
    subst this
    simp only [cond_true]at h
    exact⟨Nat.le_refl _,by simpa using h⟩
   | false=>
    rw [hb]at h
    obtain⟨h1,h2⟩:=ih (i+1) t x h
    refine⟨oM,?_⟩
    rw [show t-i=(t-(i+1))+1 by omega]
    simpa using h2
 intro t x hx
 obtain⟨_,h2⟩:=key args 0 t x hx
 simp only [Nat.sub_zero]at h2
 obtain⟨hlt,_⟩:=List.getElem?_eq_some_iff.1 h2
 rw [Array.getElem?_append_left (by simpa using hlt)]
 simpa using h2
structure Caught(P:Program)(mn:Who)(kc:FuncId)(tR:TypeId):Prop where
 fn:∃fn,P.funcs[kc]?=some fn∧fn.name≠ "runtime.NumGoroutine"∧¬fn.body=none
 ok:∀{Stop:View→Goroutine→Prop} {v:View} {c:Frame} {cs:List Frame} {p:Addr},c.mode = .returning→Run P mn Stop v (G c cs)→Run P mn Stop v (G (Frame.enter P kc #[.pointer (some p)] .deferred) (c::cs))
 pan:∀{Stop:View→Goroutine→Prop} {v:View} {c:Frame} {cs:List Frame} {b off:Nat} {cc:Array Value} {t:TypeId} {k:IntKind} {e:Int},c.mode = .panicking [⟨.iface tR (.int k e),false,false⟩]→v b=some (true,.cells cc t (0,0))→off<cc.size→
  Run P mn Stop (v.set b true (.cells (cc.setIfInBounds off (.int k e)) t (0,0))) (G {c with mode:=.returning } cs)→Run P mn Stop v (G (Frame.enter P kc #[.pointer (some ⟨b,off,none⟩)] .deferred) (c::cs))
variable(T:Tab P)
def FnD(fn:Func)(kc:FuncId)(tR:TypeId)(R:End→A0j→Prop)(v:View):Exit→St→View→Prop
 | .normal,σ,u | .ret,σ,u=>∃p,σ.ds=[dcall kc #[.pointer (some p)]]∧∃xs β',ResL T σ.ρ σ.β fn.results.toList xs∧R (.ret (A5l xs)) β'∧Back v β' u σ.β
 | .panic ch,σ,u=>∃b off k e c t β2 xs β',σ.ds=[dcall kc #[.pointer (some ⟨b,off,none⟩)]]∧ch=[⟨.iface tR (.int k e),false,false⟩]∧InB b c t σ.β∧off<c.size∧SetB b (c.setIfInBounds off (.int k e)) σ.β β2∧
   ResL T σ.ρ β2 fn.results.toList xs∧R (.ret (A5l xs)) β'∧Back v β' u β2
 | _,_,_=>False
theorem A9g{n:Nat}{fn:Func}{R:End→A0j→Prop}{a:Act}{ds:List Deferred}{ρ:Regs}{β β'':A0j}{u w:View}{xs:List Value}(hf':Fits n ⟨ds,ρ,β⟩ a)(hb':Bok β u)(hl:(u.union (A0e β)).Le w)(hr:ResL T ρ β fn.results.toList xs)(hR:R (.ret (A5l xs)) β'')(hB:Back v β'' u β) :
  SemX P (results fn a.tmps) (fun x v'=>∃β',R (.ret x) β'∧Bok β' v∧(v.union (A0e β')).Le v') (fun _ _=>False) w:=by
 obtain⟨h1,h2⟩:=hB hb'
 unfold results
 rw [A0d,Array.mapM_eq_mapM_toList,sx_map]
 refine sx_resL T hf' hb' hl hr ?_
 rw [A0m]
 refine⟨β'',?_,h1,h2.trans hl⟩
 match xs,hR with
 | [],hR=>simpa [A5l]using hR
 | [x],hR=>simpa [A5l]using hR
 | x::y::r,hR=>simpa [A5l]using hR
theorem A3m{f kc:FuncId}{tR:TypeId}(C:Caught P mn kc tR){fn:Func}{c:Code}{args:List Value}{R:End→A0j→Prop}{β:A0j}(hf:P.funcs[f]?=some fn)(hb:fn.body=some c)(hn:args.length≤fn.ntmps)
  (h:XC P mn none fn.ntmps c (FnD T fn kc tR R v) ⟨[],A2z 0 args,β⟩ v):CallsB P mn f args.toArray R β v:=fun hbk=>by
 intro Stop cf cs hc hR
 let b:Frame:={fn:=f,tmps:=#[],todo:=[],defers:=[],mode:=.run,kind:=.normal }
 have henter:Frame.enter P f args.toArray .normal=b.on {tmps:=args.toArray++Array.replicate (fn.ntmps-args.toArray.size) undef,defers:=[] } [.code c]:=by
  simp [Frame.enter,Frame.on,hf,hb,b]
 rw [henter]
 obtain⟨fc,hfc,hnm,hbd⟩:=C.fn
 refine(h _ (B3o hn) hbk) Stop b [] (cf::cs) (by simp [b]) Z fun e a' w hQ=>?_
 obtain⟨⟨ds',ρ',β'⟩,u,hq,hf',hb',hl⟩:=hQ
 have hgo:∀(fr:Frame) p,fr.mode = .returning→fr.kind = .normal→fr.fn=f→fr.tmps=a'.tmps→fr.defers=[dcall kc #[.pointer (some p)]]→(∃xs β'',ResL T ρ' β' fn.results.toList xs∧R (.ret (A5l xs)) β''∧Back v β'' u β')→Run P mn Stop w (G fr (cf::cs)):=by
  intro fr p h1 h2 h3 h4 h5 ⟨xs,β'',h6,h7,h8⟩
  refine run_defer (.inl h1) h5 hfc hnm hbd (C.ok (by simpa using h1) ?_)
  refine A7x (R:=fun e w'=>∃β',R e β'∧Bok β' v∧(v.union (A0e β')).Le w') (by simpa using h1) Z (by simpa using h2) (by simpa [h3]using hf) ?_ hR
  simp only [h4]
  exact A9g T hf' hb' hl h6 h7 h8
 cases e with
 | normal=>
  obtain⟨p,h1,h2⟩:=hq
  refine Run.ctl Z (g':=G {b.on a' []with mode:=.returning } (cf::cs)) (fun w=>by simp [G,stepG,stepG.exec,Frame.on,b]) ?_
  exact hgo _ p Z Z Z Z (hf'.defers.trans h1) h2
 | ret=>
  obtain⟨p,h1,h2⟩:=hq
  intro todo
  refine Run.ctl Z (g':=G {b.on a' (.code .ret::todo)with mode:=.returning } (cf::cs)) (fun w=>by simp [G,stepG,stepG.exec,Frame.on,b]) ?_
  exact hgo _ p Z Z Z Z (hf'.defers.trans h1) h2
 | panic ch=>
  obtain⟨bb,off,k,e,cc,t,β2,xs,β'',h1,rfl,h3,h4,h5,h6,h7,h8⟩:=hq
  intro todo
  refine run_defer (fr:={b.on a' todo with mode:=_ }) (.inr ⟨_,rfl⟩) (hf'.defers.trans h1) hfc hnm hbd ?_
  obtain⟨hbk2,c₀,t₀,hin',hv⟩:=B0c hb' h5
  have hcc:c₀=cc∧t₀=t:=by
   have h1:=A1f (v:=u) hb' hin'
   have h2:=A1f (v:=u) hb' h3
   rw [h1]at h2
   simp only [Option.some.injEq,Prod.mk.injEq,Obj.cells.injEq]at h2
   exact⟨h2.2.1,h2.2.2.1⟩
  obtain⟨rfl,rfl⟩:=hcc
  refine C.pan Z (hl _ _ (A1f hb' h3)) h4 ?_
  refine A7x (fn:=fn) (R:=fun e w'=>∃β',R e β'∧Bok β' v∧(v.union (A0e β')).Le w') Z Z Z hf ?_ hR
  refine A9g T (n:=fn.ntmps) (ds:=ds') (ρ:=ρ') (β:=β2) (u:=u) ⟨hf'.size,hf'.defers,hf'.get⟩ hbk2 ?_ h6 h7 h8
  rw [hv]
  intro b' x hx
  unfold View.set at hx⊢
  split
  ·rename_i e;rw [if_pos e]at hx;exact hx
  ·rename_i e;rw [if_neg e]at hx;exact hl _ _ hx
 | exit id=>exact hq.elim
 | goto l=>exact hq.elim
 | outgrown=>exact hq.elim
def FnM(fn:Func)(R:End→A0j→Prop)(v:View):Exit→St→View→Prop
 | .normal,σ,u | .ret,σ,u=>∃r,σ.ds=[{target:=.collected r,args:=#[] }]∧u r=some (true,.deferred (some []))∧v r=none∧∃xs β',ResL T σ.ρ σ.β fn.results.toList xs∧R (.ret (A5l xs)) β'∧(Bok σ.β u→Bok β' v∧(v.union (A0e β')).Le ((u.union (A0e σ.β)).set r true (.deferred none)))
 | _,_,_=>False
theorem callsB_fnM{f:FuncId}{fn:Func}{c:Code}{args:List Value}{R:End→A0j→Prop}{β:A0j}(hf:P.funcs[f]?=some fn)(hb:fn.body=some c)(hn:args.length≤fn.ntmps)
  (h:XC P mn none fn.ntmps c (FnM T fn R v) ⟨[],A2z 0 args,β⟩ v):CallsB P mn f args.toArray R β v:=fun hbk=>by
 intro Stop cf cs hc hR
 let b:Frame:={fn:=f,tmps:=#[],todo:=[],defers:=[],mode:=.run,kind:=.normal }
 have henter:Frame.enter P f args.toArray .normal=b.on {tmps:=args.toArray++Array.replicate (fn.ntmps-args.toArray.size) undef,defers:=[] } [.code c]:=by
  simp [Frame.enter,Frame.on,hf,hb,b]
 rw [henter]
 refine(h _ (B3o hn) hbk) Stop b [] (cf::cs) (by simp [b]) Z fun e a' w hQ=>?_
 obtain⟨⟨ds',ρ',β'⟩,u,hq,hf',hb',hl⟩:=hQ
 have hgo:∀(fr:Frame) r,fr.mode = .returning→fr.kind = .normal→fr.fn=f→fr.tmps=a'.tmps→fr.defers=[{target:=.collected r,args:=#[] }]→u r=some (true,.deferred (some []))→
   (∃xs β'',ResL T ρ' β' fn.results.toList xs∧R (.ret (A5l xs)) β''∧(Bok β' u→Bok β'' v∧(v.union (A0e β'')).Le ((u.union (A0e β')).set r true (.deferred none))))→Run P mn Stop w (G fr (cf::cs)):=by
  intro fr r h1 h2 h3 h4 h5 h6 ⟨xs,β'',h7,h8,h9⟩
  refine run_collected h1 h5 (hl _ _ (A1p h6)) ?_
  refine A7x (R:=fun e w'=>∃β',R e β'∧Bok β' v∧(v.union (A0e β')).Le w') (by simpa using h1) Z (by simpa using h2) (by simpa [h3]using hf) ?_ hR
  simp only [h4]
  obtain⟨h10,h11⟩:=h9 hb'
  have hle:((u.union (A0e β')).set r true (.deferred none)).Le (w.set r true (.deferred none)):=by
   intro b' x hx
   unfold View.set at hx⊢
   split
   ·rename_i e;rw [if_pos e]at hx;exact hx
   ·rename_i e;rw [if_neg e]at hx;exact hl _ _ hx
  obtain⟨hb2,hv2⟩:=A4r (p:=true) (o:=.deferred none) hb' (A4e hb' h6)
  refine A9g T (n:=fn.ntmps) (ds:=ds') (ρ:=ρ') (β:=β') (u:=u.set r true (.deferred none)) hf' hb2 (hv2 ▸ hle) h7 h8 (fun _=>⟨h10,hv2 ▸ h11⟩)
 cases e with
 | normal=>
  obtain⟨r,h1,h2,_,h3⟩:=hq
  refine Run.ctl Z (g':=G {b.on a' []with mode:=.returning } (cf::cs)) (fun w=>by simp [G,stepG,stepG.exec,Frame.on,b]) ?_
  exact hgo _ r Z Z Z Z (hf'.defers.trans h1) h2 h3
 | ret=>
  obtain⟨r,h1,h2,_,h3⟩:=hq
  intro todo
  refine Run.ctl Z (g':=G {b.on a' (.code .ret::todo)with mode:=.returning } (cf::cs)) (fun w=>by simp [G,stepG,stepG.exec,Frame.on,b]) ?_
  exact hgo _ r Z Z Z Z (hf'.defers.trans h1) h2 h3
 | panic ch=>exact hq.elim
 | exit id=>exact hq.elim
 | goto l=>exact hq.elim
 | outgrown=>exact hq.elim
end
section
variable{P:Program}{mn:Who}{v:View}
theorem RoundX.mono{l:Nat}{f:FuncId}{tmps:Array Value}{assign body:Code}{R R':End→View→Prop}(h:RoundX P mn l f tmps assign body R v)(hq:∀e v,R e v→∃u,u.Le v∧R' e u):RoundX P mn l f tmps assign body R' v:=fun Stop c cs hc hk=>
 h Stop c cs hc fun e v' hR=>by
  obtain⟨u,hl,hR'⟩:=hq e v' hR
  exact(hk e u hR').weaken hl
theorem roundX_body{l:Nat}{f:FuncId}{tmps:Array Value}{assign body:Code}{R:End→View→Prop}{lp:Loop}(hl:v l=some (true,.loop lp))(hs:lp.state = .ready){M:Act→View→Prop}
  (ha:wpX P mn (some l) assign (fun e a u=>e = .normal∧u l=some (true,.loop lp)∧wpX P mn (some l) body (fun e a u=>e = .normal∧u l=some (true,.loop {lp with state:=.busy })∧R (.ret (.bool true)) (u.set l true (.loop {lp with state:=.ready,pending:=none }))) a (u.set l true (.loop {lp with state:=.busy }))) ⟨tmps,[]⟩ v) :
  RoundX P mn l f tmps assign body R v:=by
 intro Stop c cs hc hR
 let b:Frame:={fn:=f,tmps:=#[],todo:=[],defers:=[],mode:=.run,kind:=.normal,roundOf:=some l }
 have henter:Frame.round l f tmps assign body .normal=b.on ⟨tmps,[]⟩ [.code assign,.beginRound,.code body]:=by simp [Frame.round,Frame.on,b]
 rw [henter]
 refine ha Stop b _ (c::cs) (by simp [b]) Z fun e a u ⟨he,hu,hb⟩=>?_
 subst he
 -- beginRound
 refine A9h (m:=Instr.beginRound l) (K:=fun _ u'=>u'=u.set l true (.loop {lp with state:=.busy })) (E:=fun _ _=>False) rfl ?_ (fun _ u' hu'=>?_) (fun x v' hx=>hx.elim)
 ·unfold Instr.beginRound Instr.getLoop
  simp only [A0d]
  refine A4p hu Z Z ?_
  refine A4o hu Z Z ?_
  simp only [hs]
  rfl
 ·subst hu'
  refine⟨G (b.on a [.code body]) (c::cs),fun w w' es hrun=>⟨seen P b.fn es++#[],?_,fun e he=>mem_seen (by simpa using he)⟩,?_⟩
  ·have h1:stepG P mn.main (G (b.on a (.beginRound::[.code body])) (c::cs)) w=stepG.apply P true (b.on a (.beginRound::[.code body])) (c::cs) none (do Instr.beginRound l;pure .skip) w:=by
    simp [G,stepG,stepG.exec,Frame.on,b]
   rw [h1]
   have h2:(do Instr.beginRound l;pure .skip:Sem Next).runT P w #[]=(.ok .skip w',es):=by
    show(Sem.bind _ _).runT P w #[]=_
    rw [Sem.runT_bind',hrun]
    rfl
   unfold stepG.apply
   simp only [if_true,h2,show((b.on a (.beginRound::[.code body])).kind==CallKind.early)=false from Z,Bool.false_eq_true,if_false]
   rfl
  ·refine hb Stop b [] (c::cs) (by simp [b]) Z fun e a' u' ⟨he,hu',hr⟩=>?_
   subst he
   refine A9h (m:=Instr.endRound l none) (K:=fun x w=>x = .bool true∧w=u'.set l true (.loop {lp with state:=.ready,pending:=none })) (E:=fun _ _=>False) rfl ?_ (fun x w hx=>?_) (fun x v' hx=>hx.elim)
   ·unfold Instr.endRound Instr.getLoop
    simp only [A0d]
    refine A4p hu' Z Z ?_
    exact A4o hu' Z Z ⟨Z,Z⟩
   ·obtain⟨rfl,rfl⟩:=hx
    refine⟨G (c.finish (.bool true)) cs,fun w w' es hrun=>⟨seen P b.fn es++#[],?_,fun e he=>mem_seen (by simpa using he)⟩,hR _ _ hr⟩
    have h1:stepG P mn.main (G (b.on a' []) (c::cs)) w=stepG.exec P mn.main true (b.on a' []) (c::cs) none w:=by simp [G,stepG,Frame.on,b]
    rw [h1]
    unfold stepG.exec
    simp only [show(b.on a' []).todo=[]from Z,show(b.on a' []).roundOf=some l from Z,hrun]
    rfl
end
section
variable{P:Program}{mn:Who}{v:View}
theorem RoundX.frame{l:Nat}{f:FuncId}{tmps:Array Value}{assign body:Code}{R:End→View→Prop}{F:View}(h:RoundX P mn l f tmps assign body R v)(hd:Disj v F) :
  RoundX P mn l f tmps assign body (fun e v'=>∃u,v'=u.union F∧Disj u F∧R e u) (v.union F):=by
 intro Stop c cs hc hk
 have h1:=(h (fun u g=>∃e,R e u∧(match e with | .ret x=>g=G (c.finish x) cs | .pan ch=>g=G (c.raise ch) cs)) c cs hc (fun e v' hR=>by
  cases e with
  | ret x=>exact .stop (Le.refl _) ⟨.ret x,hR,rfl⟩
  | pan ch=>exact .stop (Le.refl _) ⟨.pan ch,hR,rfl⟩)).frame hd
 refine h1.mono ?_
 rintro v' g ⟨u,rfl,hdu,e,hR,hg⟩
 have:=hk e (u.union F) ⟨u,Z,hdu,hR⟩
 cases e<;>(subst hg;exact this)
theorem x_rangeFunc{fop:Operand}{params:Array Tmp}{assign body:Code}{Q:Exit→Act→View→Prop}{a:Act}{kf:FuncId}{first captured:Array Value}(hf:a.eval fop = .func (.func kf) first captured)(hk:A0n P kf)
  (h:∀r l fnId,v r=none→v l=none→r≠l→
   CallsX P mn kf (first++#[.func (.yield l) #[] #[]]++captured) (fun e u=>∃x lp,e = .ret x∧u l=some (true,.loop lp)∧lp.state≠.busy∧lp.pending=none∧Q .normal ⟨a.tmps,{target:=.collected r,args:=#[] }::a.defers⟩ (u.set l true (.loop {lp with state:=.exhausted })))
    ((v.set r true (.deferred (some []))).set l true (.loop {state:=.ready,pending:=none,fn:=fnId,tmps:=a.tmps,params:=params,assign:=assign,body:=body,defers:=r }))) :
  wpX P mn none (.rangeFunc fop params assign body) Q a v:=by
 intro Stop b k cs hb hr hq
 have hbr:∀(c:Act) (its:List Item),({b.on c its with roundOf:=none }:Frame)=b.on c its:=fun c its=>by
  unfold Frame.on
  rw [←hr]
 have hev:(b.on a (.code (.rangeFunc fop params assign body)::k)).eval fop = .func (.func kf) first captured:=by rw [eval_on];exact hf
 let m:Sem (Nat×List Deferred×Next):=(Instr.enterLoop b.fn a.tmps params assign body none) >>= fun p=>(callFunc kf (first++#[.func (.yield p.1) #[] #[]]++captured)) >>= fun nx=>pure (p.1,p.2,nx)
 refine A9h (m:=m) (K:=fun p u=>∃r,v r=none∧v p.1=none∧r≠p.1∧p.2.1=[{target:=.collected r,args:=#[] }]∧p.2.2 = .enter kf (first++#[.func (.yield p.1) #[] #[]]++captured)∧
   u=(v.set r true (.deferred (some []))).set p.1 true (.loop {state:=.ready,pending:=none,fn:=b.fn,tmps:=a.tmps,params:=params,assign:=assign,body:=body,defers:=r })) (E:=fun _ _=>False) rfl ?_ (fun p u hp=>?_) (fun x v' hx=>hx.elim)
 ·simp only [m,A0d]
  unfold Instr.enterLoop
  simp only [A0d]
  intro r hvr
  simp only [A0m,A0d]
  intro l hl
  have hlr:r≠l:=by
   intro e;subst e;simp [View.set]at hl
  have hvl:v l=none:=by
   unfold View.set at hl;rwa [if_neg (fun e=>hlr e.symm)]at hl
  exact A7m hk ⟨r,hvr,hvl,hlr,Z,Z,Z⟩
 ·obtain⟨l,mark,nx⟩:=p
  obtain⟨r,h1,h2,h3,h4,h5,h6⟩:=hp
  simp only at h1 h2 h3 h4 h5 h6
  subst h4 h5 h6
  have hbe:((b.on a (.code (.rangeFunc fop params assign body)::k)).kind==CallKind.early)=false:=by simpa [Frame.on]using hb
  refine⟨G (Frame.enter P kf (first++#[.func (.yield l) #[] #[]]++captured) .normal) (b.on ⟨a.tmps,{target:=.collected r,args:=#[] }::a.defers⟩ (.inRangeFunc l::k)::cs),fun w w' es hrun=>?_,?_⟩
  ·-- the step
   have hr':(b.on a (.code (.rangeFunc fop params assign body)::k)).roundOf=none:=hr
   cases e1:(Instr.enterLoop b.fn a.tmps params assign body none).runT P w #[]with
   | mk r1 es1=>
    cases r1 with
    | halt hh w1=>
     exfalso
     have:m.runT P w #[]=(.halt hh w1,es1):=by
      show(Sem.bind _ _).runT P w #[]=_
      rw [Sem.runT_bind',e1]
     rw [this]at hrun;cases hrun
    | ok p w1=>
     have e2:(callFunc kf (first++#[.func (.yield p.1) #[] #[]]++captured)).runT P w1 es1=(.ok (.enter kf (first++#[.func (.yield p.1) #[] #[]]++captured)) w1,es1):=by
      obtain⟨fn,c,q1,q2,q3⟩:=hk
      unfold callFunc
      simp [q1,q2,q3,Sem.runT,Sem.bind]
     have e3:m.runT P w #[]=(.ok (p.1,p.2,.enter kf (first++#[.func (.yield p.1) #[] #[]]++captured)) w1,es1):=by
      show(Sem.bind _ _).runT P w #[]=_
      rw [Sem.runT_bind',e1]
      show(Sem.bind _ _).runT P w1 es1=_
      rw [Sem.runT_bind',e2]
      rfl
     rw [e3]at hrun
     simp only [Prod.mk.injEq,Result.ok.injEq]at hrun
     obtain⟨⟨⟨hp1,hp2,_⟩,hw⟩,hes⟩:=hrun
     have e4:(callFunc kf (first++#[.func (.yield l) #[] #[]]++captured)).runT P w1 #[]=(.ok (.enter kf (first++#[.func (.yield l) #[] #[]]++captured)) w1,#[]):=by
      obtain⟨fn,c,q1,q2,q3⟩:=hk
      unfold callFunc
      simp [q1,q2,q3,Sem.runT,Sem.bind]
     refine⟨seen P b.fn es1++(seen P b.fn #[]++#[]),?_,fun e he=>?_⟩
     ·have s1:stepG P mn.main (G (b.on a (.code (.rangeFunc fop params assign body)::k)) cs) w=stepG.exec P mn.main true (b.on a (.code (.rangeFunc fop params assign body)::k)) cs none w:=by simp [G,stepG,Frame.on]
      rw [s1]
      unfold stepG.exec
      simp only [show(b.on a (.code (.rangeFunc fop params assign body)::k)).todo = .code (.rangeFunc fop params assign body)::k from Z,show(b.on a (.code (.rangeFunc fop params assign body)::k)).fn=b.fn from Z,
       show(b.on a (.code (.rangeFunc fop params assign body)::k)).tmps=a.tmps from Z,hr',e1]
      unfold stepG.apply
      have e5:∀(fr:Frame),fr.eval fop = .func (.func kf) first captured→(do let d ←resolve fr.eval {callee:=.value fop,args:=#[.const (.func (.yield p.1) #[] #[])],argTypes:=#[] } 0;invoke d.target d.args:Sem Next)=callFunc kf (first++#[.func (.yield p.1) #[] #[]]++captured):=by
       intro fr hfr
       have ha:(#[Operand.const (.func (.yield p.1) #[] #[])]:Array Operand).map fr.eval=#[.func (.yield p.1) #[] #[]]:=by simp [Frame.eval]
       unfold resolve
       simp only [ha,hfr,Deferred.ofValue]
       rfl
      rw [e5 _ (by exact hev)]
      rw [hp1,hp2,hw]at *
      simp only [if_true,e4]
      rw [show(b.on a (.code (.rangeFunc fop params assign body)::k)).kind=b.kind from rfl]at *
      simp only [hbe,Bool.false_eq_true,if_false]
      rw [←hbr ⟨a.tmps,{target:=.collected r,args:=#[] }::a.defers⟩ (.inRangeFunc l::k)]
      rfl
     ·rw [←hes]
      simp only [Array.mem_append]at he
      rcases he with he|he|he
      ·exact mem_seen he
      ·rw [seen_none]at he;exact absurd he sM
      ·exact absurd he sM
  ·refine h r l b.fn h1 h2 h3 Stop _ cs Z fun e u hR=>?_
   obtain⟨x,lp,rfl,hu,hns,hpd,hQ⟩:=hR
   show Run P mn Stop u (G (Frame.finish _ x) cs)
   rw [show(b.on ⟨a.tmps,{target:=.collected r,args:=#[] }::a.defers⟩ (.inRangeFunc l::k)).finish x=b.on ⟨a.tmps,{target:=.collected r,args:=#[] }::a.defers⟩ (.endRangeFunc l::k)from rfl]
   refine A9h (m:=Instr.endLoop l) (K:=fun j w=>j=none∧w=u.set l true (.loop {lp with state:=.exhausted })) (E:=fun _ _=>False) rfl ?_ (fun j w hj=>?_) (fun x v' hx=>hx.elim)
   ·unfold Instr.endLoop Instr.getLoop
    simp only [A0d]
    refine A4p hu Z Z ?_
    rw [A0m,if_neg (by simpa using hns),A0d]
    refine A4o hu Z Z ?_
    exact⟨hpd,Z⟩
   ·obtain⟨rfl,rfl⟩:=hj
    refine⟨G (b.on ⟨a.tmps,{target:=.collected r,args:=#[] }::a.defers⟩ k) cs,fun w w' es hrun=>⟨seen P b.fn es++#[],?_,fun e he=>mem_seen (by simpa using he)⟩,hq _ _ _ hQ⟩
    have h1:stepG P mn.main (G (b.on ⟨a.tmps,{target:=.collected r,args:=#[] }::a.defers⟩ (.endRangeFunc l::k)) cs) w=stepG.exec P mn.main true (b.on ⟨a.tmps,{target:=.collected r,args:=#[] }::a.defers⟩ (.endRangeFunc l::k)) cs none w:=by simp [G,stepG,Frame.on]
    rw [h1]
    unfold stepG.exec
    simp only [show(b.on ⟨a.tmps,{target:=.collected r,args:=#[] }::a.defers⟩ (.endRangeFunc l::k)).todo = .endRangeFunc l::k from Z,hrun]
    rfl
def YieldX(P:Program)(mn:Who)(l:Nat)(xs:List Value)(J:View→Prop)(v:View):Prop:=
 SemX P (Instr.yield l xs.toArray) (fun nx w=>match nx with | .round l f tmps assign body=>RoundX P mn l f tmps assign body (fun e w'=>e = .ret (.bool true)∧J w') w|_=>False) (fun _ _=>False) v
theorem yieldX_of{l:Nat}{xs:List Value}{J:View→Prop}{lp:Loop}(hl:v l=some (true,.loop lp))(hs:lp.state = .ready)(hn:xs.length=lp.params.size)
  (ha:wpX P mn (some l) lp.assign (fun e a u=>e = .normal∧u l=some (true,.loop lp)∧wpX P mn (some l) lp.body (fun e a u=>e = .normal∧u l=some (true,.loop {lp with state:=.busy })∧J (u.set l true (.loop {lp with state:=.ready,pending:=none }))) a (u.set l true (.loop {lp with state:=.busy }))) ⟨(lp.params.zip xs.toArray).foldl (fun tmps (t,a)=>tmps.setIfInBounds t a) lp.tmps,[]⟩ v):YieldX P mn l xs J v:=by
 unfold YieldX Instr.yield Instr.getLoop
 simp only [A0d]
 refine A4p hl Z Z ?_
 have:¬(xs.toArray.size≠lp.params.size):=by simpa using hn
 simp only [A0m]
 rw [if_neg this]
 refine roundX_body (M:=fun _ _=>True) hl hs (A3u ha fun e a u h=>⟨u,Le.refl _,h.1,h.2.1,A3u h.2.2 fun e a u h=>⟨u,Le.refl _,h.1,h.2.1,Z,h.2.2⟩⟩)
end
section
variable{P:Program}{mn:Who}{rd:Option Nat}{n:Nat}{Q:Exit→St→View→Prop}{ds:List Deferred}{ρ:Regs}{β:A0j}{v:View}{K:St→View→Prop}
 {ops:Array Oper}{i:Nat}{d:Nat}{ty:TypeId}{pos:String}{af:Array Edge}{gu:Option (Nat×Bool)}
theorem A_yield{f:Operand}{args:Array Operand}{ats:Array TypeId}{l:Nat}{xs:List Value}{J:View→Prop}(hrd:rd≠some 4294967295)(ho:ops[i]?=some ⟨some d,.call {callee:=.value f,args:=args,argTypes:=ats },ty,pos,af,gu⟩)(hw:A0x ops gu ρ=some true)(hn:Nat.blt d n=true)
  (hf:ρ.val f=some (.func (.yield l) #[] #[]))(hxs:A3q ρ.val args.toList=some xs)(hy:YieldX P mn l xs J v)(h:∀u,J u→K ⟨ds,(d,.bool true)::ρ,β⟩ u):XOp P mn rd n ops i Q K ⟨ds,ρ,β⟩ v:=by
 refine A2x ho (A0p hw) (.inr Z) hn fun ev hev hbk=>?_
 have ha:args.map ev=xs.toArray:=Array.toList_inj.1 (by simpa using A3h hev hxs)
 unfold execOp
 simp only [resolve,Deferred.ofValue,hev _ _ hf,ha,A0d,A0m,invoke]
 have he:(#[]++xs.toArray:Array Value)=xs.toArray:=by simp
 rw [he]
 refine A2c _ (fun nx w hK=>?_) (fun x w hE=>?_) (A8j (F:=A0e β) _ hy hbk.disj)
 ·obtain⟨u1,rfl,hd1,hK⟩:=hK
  cases nx with
  | round l f tmps assign body=>
   refine⟨hrd,RoundX.mono (RoundX.frame hK hd1) fun e w' hR=>?_⟩
   obtain⟨u2,rfl,hd2,rfl,hJ⟩:=hR
   exact⟨_,Le.refl _,β,u2,⟨⟨hbk.nodup,hd2⟩,Le.refl _⟩,h u2 hJ⟩
  | _=>exact hK.elim
 ·obtain⟨u1,_,_,hE⟩:=hE
  exact hE.elim
end
def Ret1(P:Program)(mn:Who)(k:FuncId)(args:List Value)(x:Value)(v:View):Prop:=CallsB P mn k args.toArray (RetB fun r β'=>r=x∧β'=[]) [] v
section
variable{P:Program}{mn:Who}{v u:View}
theorem Ret1.x{k:FuncId}{args:List Value}{x:Value}(h:Ret1 P mn k args x v):CallsX P mn k args.toArray (fun e u=>e = .ret x∧v.Le u) v:=by
 have h1:=h ⟨List.nodup_nil,fun _=>.inr Z⟩
 rw [show v.union (A0e [])=v from A2r v]at h1
 refine h1.mono fun e w hR=>⟨w,Le.refl _,?_⟩
 obtain⟨β',hR,_,hl⟩:=hR
 cases e with
 | ret y=>
  obtain⟨rfl,rfl⟩:=hR
  rw [A2r]at hl
  exact⟨Z,hl⟩
 | pan ch=>exact hR.elim
theorem Ret1.le{k:FuncId}{args:List Value}{x:Value}(h:Ret1 P mn k args x u)(hl:u.Le v):Ret1 P mn k args x v:=fun hb=>by
 obtain⟨F,rfl,hd⟩:=B0j hl
 rw [A2r]
 refine(CallsX.frame h.x hd).mono fun e w hR=>?_
 obtain⟨u',rfl,hd',rfl,hle⟩:=hR
 refine⟨_,Le.refl _,[],⟨Z,Z⟩,⟨List.nodup_nil,fun _=>.inr Z⟩,?_⟩
 rw [A2r]
 exact A4b hle hd'
theorem Ret1.box{k:FuncId}{args:List Value}{x:Value}{β:A0j}(h:Bok β v→Ret1 P mn k args x (v.union (A0e β))):CallsB P mn k args.toArray (RetB fun r β'=>r=x∧β'=β) β v:=fun hb=>
 (h hb).x.mono fun e w hR=>⟨w,Le.refl _,β,by obtain⟨rfl,hl⟩:=hR;exact⟨⟨Z,Z⟩,hb,hl⟩⟩
theorem CallsB.mono{k:FuncId}{args:Array Value}{R R':End→A0j→Prop}{β:A0j}(h:CallsB P mn k args R β v)(hR:∀e β,R e β→R' e β):CallsB P mn k args R' β v:=fun hb=>
 (h hb).mono fun e w ⟨β',h1,h2,h3⟩=>⟨w,Le.refl _,β',hR _ _ h1,h2,h3⟩
end
section
variable{P:Program}{mn:Who}(T:Tab P){rd:Option Nat}{n:Nat}{Q:Exit→St→View→Prop}{ds:List Deferred}{ρ:Regs}{β:A0j}{v:View}{K:St→View→Prop}
 {ops:Array Oper}{i:Nat}{l:List Oper}{d:Nat}{ty:TypeId}{pos:String}{af:Array Edge}{gu:Option (Nat×Bool)}
theorem A0s{f:Operand}{args:Array Operand}{ats:Array TypeId}{k:FuncId}{first captured:Array Value}{xs ys:List Value}{x:Value}(ho:ops[i]?=some ⟨some d,.call {callee:=.value f,args:=args,argTypes:=ats },ty,pos,af,gu⟩)(hk:A0n P k)(hw:A0x ops gu ρ=some true)(hn:Nat.blt d n=true)
  (hf:ρ.val f=some (.func (.func k) first captured))(hxs:A3q ρ.val args.toList=some xs)(hys:first.toList++(xs++captured.toList)=ys)(hc:Ret1 P mn k ys x v)(h:K ⟨ds,(d,x)::ρ,β⟩ v):XOp P mn rd n ops i Q K ⟨ds,ρ,β⟩ v:=
 A0i [] β ho hk hw hn hf hxs hys (fun _=>rfl) (hc.le (A0b _ _)) (fun y β' hR=>by obtain⟨rfl,rfl⟩:=hR;exact h)
theorem A3r{f:Operand}{args:Array Operand}{ats:Array TypeId}{k:FuncId}{first captured:Array Value}{xs ys:List Value}{x:Value}(hk:A0n P k)(hw:A0x ops gu ρ=some true)(hn:Nat.blt d n=true)
  (hf:ρ.val f=some (.func (.func k) first captured))(hxs:A3q ρ.val args.toList=some xs)(hys:first.toList++(xs++captured.toList)=ys)(hc:Ret1 P mn k ys x v)(h:XL P mn n ops Q l ⟨ds,(d,x)::ρ,β⟩ v) :
  XL P mn n ops Q (⟨some d,.call {callee:=.value f,args:=args,argTypes:=ats },ty,pos,af,gu⟩::l) ⟨ds,ρ,β⟩ v:=by
 refine L_call hw hn hf hxs hk ?_ h
 have:(first++xs.toArray++captured:Array Value)=ys.toArray:=by rw [←hys];apply Array.ext';simp
 rw [this]
 exact hc.x
theorem B4d{recv:Operand}{name:String}{args:Array Operand}{ats:Array TypeId}{k:FuncId}{t:TypeId}{td:TypeDesc}{x y:Value}{xs ys:List Value}(hk:A0n P k)(hm:methB P t name k=true)(ht:T.und t=some td)(hp:plainD td=true)(hw:A0x ops gu ρ=some true)(hn:Nat.blt d n=true)
  (hx:ρ.val recv=some (.iface t x))(hxs:A3q ρ.val args.toList=some xs)(hys:x::xs=ys)(hc:Ret1 P mn k ys y v)
  (h:XL P mn n ops Q l ⟨ds,(d,y)::ρ,β⟩ v):XL P mn n ops Q (⟨some d,.call {callee:=.invoke recv name,args:=args,argTypes:=ats },ty,pos,af,gu⟩::l) ⟨ds,ρ,β⟩ v:=by
 refine A8u (o:=⟨some d,.call {callee:=.invoke recv name,args:=args,argTypes:=ats },ty,pos,af,gu⟩) (x:=y) (A0p hw) hn (fun ev hev hbk w hle=>?_) h
 have ha:args.map ev=xs.toArray:=Array.toList_inj.1 (by simpa using A3h hev hxs)
 unfold execOp
 simp only [resolve,hev _ _ hx,ha,A0d,A0m,invoke]
 have h0:(#[.iface t x]++xs.toArray:Array Value)[0]?=some (.iface t x):=by simp
 have h1:(#[.iface t x]++xs.toArray:Array Value).extract 1 (#[.iface t x]++xs.toArray:Array Value).size=xs.toArray:=by
  apply Array.ext'
  simp
 simp only [h0,h1,callMethod,A0d,A3v]
 have hdep:0<Made.depth:=by decide
 obtain⟨fu,hfu⟩:∃fu,P.types.size+Made.depth=fu+1:=⟨P.types.size+Made.depth-1,oM⟩
 rw [hfu]
 refine sx_method T hm ht hp ?_
 have h2:(#[x]++xs.toArray:Array Value)=ys.toArray:=by rw [←hys];apply Array.ext';simp
 simp only [h2]
 exact A7m hk ⟨Le.refl _,(hc.le ((A0b _ _).trans hle)).x⟩
theorem A_byte{t:TypeId}{y z:Operand}{s:ByteArray}{j:Nat}{jz:Int}{k:IntKind}(ho:ops[i]?=some ⟨some d,.index t y z,ty,pos,af,gu⟩)(hw:A0x ops gu ρ=some true)(hn:Nat.blt d n=true)(hy:ρ.val y=some (.string s))(hz:ρ.val z=some (.int k jz))(hj:jz=j)(ht:T.und t=some .string){b:UInt8}(hb:s[j]?=some b)
  (h:K ⟨ds,(d,.int .u8 b.toNat)::ρ,β⟩ v):XOp P mn rd n ops i Q K ⟨ds,ρ,β⟩ v:=by
 refine A2x ho (A0p hw) (.inr Z) hn fun ev hev hbk=>?_
 subst hj
 simp only [execOp,A0d,hev _ _ hy,hev _ _ hz,Instr.index,asIntOf,A0m,A1r T ht]
 have:(0:Int)≤(j:Int):=oM
 simp only [this,if_true,Int.toNat_natCast,hb]
 exact⟨β,v,⟨hbk,Le.refl _⟩,h⟩
theorem A_panic{x:Operand}{t:TypeId}{y:Value}(ho:ops[i]?=some ⟨none,.panic x,ty,pos,af,gu⟩)(hw:A0x ops gu ρ=some true)(hx:ρ.val x=some (.iface t y))
  (h:Q (.panic [{v:=.iface t y,recovered:=false }]) ⟨ds,ρ,β⟩ v):XOp P mn rd n ops i Q K ⟨ds,ρ,β⟩ v:=by
 refine A2x ho (A0p hw) (.inr Z) Z fun ev hev hbk=>?_
 simp only [execOp,A0d,hev _ _ hx,Instr.panic]
 exact⟨β,v,⟨hbk,Le.refl _⟩,h⟩
theorem A6x{f:FuncId}{aS:Array Operand}{ats:Array TypeId}{xs:List Value}(hrd:rd=none)(ho:ops[i]?=some ⟨none,.defer {callee:=.value (.func f),args:=aS,argTypes:=ats },ty,pos,af,gu⟩)(hw:A0x ops gu ρ=some true)
  (hxs:A3q ρ.val aS.toList=some xs)(h:K ⟨dcall f xs.toArray::ds,ρ,β⟩ v):XOp P mn rd n ops i Q K ⟨ds,ρ,β⟩ v:=by
 refine A2x ho (A0p hw) (.inl hrd) Z fun ev hev hbk=>?_
 have ha:aS.map ev=xs.toArray:=Array.toList_inj.1 (by simpa using A3h hev hxs)
 have hf:ev (.func f) = .func (.func f) #[] #[]:=hev _ _ Z
 unfold execOp
 simp only [resolve,Deferred.ofValue,hf,ha,A0d,A0m]
 refine⟨hrd,β,v,⟨hbk,Le.refl _⟩,?_⟩
 simpa [dcall,putR]using h
end
end Go.Pal
end
