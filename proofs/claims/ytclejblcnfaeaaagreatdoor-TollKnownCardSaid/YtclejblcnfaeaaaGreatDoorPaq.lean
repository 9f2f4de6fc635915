/- Part 17. -/
import Derived.Conc.TokenWalk
import Derived.Test.YtclejblcnfaeaaaGreatDoorPap
set_option linter.all false
section
namespace Go.Pal.Fan
open Go Go.Conc Go.Pal View
open Go.ConcN (sumTo upd sumTo_upd upd_ne upd_same sumTo_congr le_sumTo)
open Go.Pal.Mu (wgV wgB OnB BkE MuteD cell_of thaw_of mute_dis mute_one mute_rw mute_sem bk_dis bk_en bk_r bk_w bk_rw bk_sem deaf_dis deaf_en deaf_r deaf_rw deaf_sem deaf_nil)
section
variable{P:Program}{A:Par}{base:Nat}{Z:View→Goroutine→Prop}{n j:Nat}{N:Nat}{b:Frame}{cs:List Frame}{ds:List Deferred}{ρ:Regs}{v:View}{k:List Item}{ops:Array Oper}{i:Nat}{rest:List Nat}{d:Nat}{op:Op}{ty:TypeId}{pos:String}{af:Array Edge}{gu:Option (Nat×Bool)}
variable{f:FuncId}{fn:Func}{aS:Array Operand}{ats:Array TypeId}{o1 o2 o3:Operand}{γ:FS A.M}{X:Nat→TF A→View→Goroutine→Prop}{g:Goroutine}
theorem ev_bk(hb0:0<base){i:Nat}{τ:TF A}{w:World}{es:Array Event}(O:Ok A.J A.Ls γ)(hth:thF A base γ i=some τ)(hlt:A.Wg<w.heap.size)(h:∀e∈es,BkE A.Wg e):∀e∈es,K.EvS (A0w A base) γ i w.heap.size e:=fun e he=>evS_bk hb0 O hth hlt (h e he)
theorem cl_of{q:Cl}(hb0:0<base)(h:thF A base γ (base+A.J)=some (.inr (.inr q))):γ.cl=q∧q≠.un∧q≠.off:=by
 rcases B0e h with ⟨h0,_⟩|⟨j',h1,h2,_⟩|⟨_,h3,h4,h5⟩
 ·omega
 ·omega
 ·simp only [Sum.inr.injEq]at h5
  subst h5
  exact⟨Y,h3,h4⟩
theorem mn_of{q:Mn A.M}(h:thF A base γ 0=some (.inl q)):γ.mn=q:=by
 rw [A2o]at h;simpa using h
theorem B0w{mk:Mark}:∀e∈(#[mkE mk]:Array Event),∀c wr,e≠⟨.obj c,wr,true⟩:=fun e he c wr e'=>by
 simp only [List.mem_toArray,List.mem_singleton]at he
 rw [he]at e';cases e'
theorem at_cl(hb0:0<base){q:Cl}(hq:midC q=true)(hrun:g.status = .running)(hoff:g.offers=none)
  (h:∀γ w,Ok A.J A.Ls γ→γ.cl=q→w.heap[A.Wg]?=some (wgB A.tW γ.v γ.wt γ.sm)→((q = .w3∧γ.sm=0)→stepG P false g w = .go {g with status:=.blocked } w #[])∧(¬(q = .w3∧γ.sm=0)→∃q' wt' sm' g' w' es,stepG P false g w = .go g' w' es∧Tr A.J A.Ls base γ (base+A.J) {γ with cl:=q',wt:=wt',sm:=sm' }∧midC q'=true∧
   OnB A.Wg (wgB A.tW γ.v wt' sm') w w'∧(∀e∈es,K.EvS (A0w A base) γ (base+A.J) w.heap.size e)∧(∀e∈es,∀c wr,e≠⟨.obj c,wr,true⟩)∧deafBehind (dfC q) es=dfC q'∧X (base+A.J) (.inr (.inr q')) v g')) :
  K.AtF P (A0w A base) base Z X (base+A.J) (.inr (.inr q)) v g:=by
 refine⟨hrun,hoff,fun e=>(by cases q<;>first|(cases hq;done)|(cases e)),fun γ w O hth hag hS hd hcalm=>?_⟩
 have hth:thF A base γ (base+A.J)=some (.inr (.inr q)):=hth
 obtain⟨hc,hq1,hq2⟩:=cl_of hb0 hth
 have hwg:w.heap[A.Wg]?=some (wgB A.tW γ.v γ.wt γ.sm):=hS A.Wg true _ A9l
 have hi0:base+A.J≠0:=oM
 have hbq:(base+A.J==0)=false:=by simpa using hi0
 rw [hbq]
 obtain⟨k1,k2⟩:=h γ w O hc hwg
 refine⟨fun⟨_,h1,h2⟩=>k1 ⟨hc ▸ h1,h2⟩,fun hbl=>?_⟩
 obtain⟨q',wt',sm',g',w',es,h1,h2,h3,h4,h5,h6,h7,hx⟩:=k2 (fun⟨e1,e2⟩=>hbl ⟨rfl,hc.trans e1,e2⟩)
 have hne:q'≠.un∧q'≠.off:=by cases q'<;>cases h3<;>simp
 have hth':thF A base {γ with cl:=q',wt:=wt',sm:=sm' } (base+A.J)=some (.inr (.inr q')):=B1i hb0 rfl hne.1 hne.2
 have hs':A5u q'=A5u γ.cl:=by
  have:∀{c:Cl},midC c=true→A5u c=false:=fun {c} h=>by cases c<;>cases h<;>rfl
  rw [this h3,this (c:=γ.cl) (by rw [hc];exact hq)]
 exact .on _ (.inr (.inr q')) v g' w' es (by rw [hbq];exact h1) (ss_of h2 Y hag hS hd (.inl Y) h4 A9l (A9m (.inr (.inl ⟨Y,Y,hs'⟩))) h5 (fun σ hσ=>by rw [hth']at hσ;cases hσ;exact h7) (.inl h6) (fun h=>(by cases h)) (mv_clo hb0 rfl rfl (by rw [hc];exact hq) h3)) hth' (fun h=>(by cases h)) hx
theorem s_cl(hb0:0<base){q:Cl}(hq:midC q=true)(hq3:q≠.w3)(hn:Nat.blt d N=true)
  (h:∀γ w c,Ok A.J A.Ls γ→γ.cl=q→w.heap[A.Wg]?=some (wgB A.tW γ.v γ.wt γ.sm)→Fits N ⟨ds,ρ,[]⟩ c→∃y q' wt' w' es,stepG P false (G (b.on c (.inRegion ops (i::rest)::k)) cs) w = .go (G (b.on (c.put (some d) y) (.inRegion ops rest::k)) cs) w' es∧
   Tr A.J A.Ls base γ (base+A.J) {γ with cl:=q',wt:=wt',sm:=γ.sm }∧midC q'=true∧OnB A.Wg (wgB A.tW γ.v wt' γ.sm) w w'∧(∀e∈es,K.EvS (A0w A base) γ (base+A.J) w.heap.size e)∧(∀e∈es,∀c wr,e≠⟨.obj c,wr,true⟩)∧deafBehind (dfC q) es=dfC q'∧
   JK P A base Z n (base+A.J) (.inr (.inr q')) N b (.inRegion ops rest::k) cs ds ((d,y)::ρ) v) :
  XK P false A base Z n (base+A.J) (.inr (.inr q)) N b (.inRegion ops (i::rest)::k) cs ds ρ v:=fun c hf=>by
 refine .stop (Le.refl v) (.inl ⟨Y,Y,at_cl hb0 hq Y Y fun γ w O hm hwg=>⟨fun⟨e,_⟩=>absurd e hq3,fun _=>?_⟩⟩)
 obtain⟨y,q',wt',w',es,h1,h2,h3,h4,h5,h6,h7,h8⟩:=h γ w c O hm hwg hf
 exact⟨q',wt',γ.sm,_,w',es,h1,h2,h3,h4,h5,h6,h7,h8 _ (A0x hf (show A2p N (some d)=true from hn))⟩
theorem B2c(hb0:0<base){q:Cl}(hq:midC q=true)(hc:γ.cl=q):thF A base γ (base+A.J)=some (.inr (.inr q)):=B1i hb0 hc (by cases q<;>cases hq<;>simp) (by cases q<;>cases hq<;>simp)
theorem say_clo(hc:midC γ.cl=true)(O:Ok A.J A.Ls γ):(A0w A base).say γ A.Wg=base+A.J:=by
 show(if γ.st≤A.J then _ else _)=_
 rw [if_neg (fun e=>by have:=O.cls.2 e;rw [this]at hc;cases hc)]
theorem s_cmark0(mk:Mark)(hmk:mk = .disable∨mk = .enable)(hb0:0<base){q q':Cl}(hq:midC q=true)(hq3:q≠.w3)(hq':midC q'=true)(hk:b.kind≠.early)(hr:b.roundOf=none)(ho:ops[i]?=some ⟨some d,.call {callee:=.value (.func f),args:=aS,argTypes:=ats },ty,pos,af,gu⟩)
  (hw:A0p ops gu ρ=some true)(hn:Nat.blt d N=true)(E:Ext P f fn (fun _=>do mark mk;pure Extern.Race.none_))(htr:∀γ:FS A.M,γ.cl=q→Tr A.J A.Ls base γ (base+A.J) {γ with cl:=q' })(hdf:deafBehind (dfC q) #[mkE mk]=dfC q')
  (h:JK P A base Z n (base+A.J) (.inr (.inr q')) N b (.inRegion ops rest::k) cs ds ((d,.tuple #[])::ρ) v):XK P false A base Z n (base+A.J) (.inr (.inr q)) N b (.inRegion ops (i::rest)::k) cs ds ρ v:=
 s_cl hb0 hq hq3 hn fun γ w c O hm hwg hf=>⟨.tuple #[],q',γ.wt,w,#[mkE mk],by
  rw [A1u hr,A1u hr]
  exact stepG_mark0 mk (by rcases hmk with rfl|rfl<;>intro g e<;>cases e) ho (A0m hf (A0j hw)) hk rfl E.hf E.hname E.hb E.hn E.he,htr γ hm,hq',.same hwg,by
  intro e he
  simp only [List.mem_toArray,List.mem_singleton]at he
  subst he
  rcases hmk with rfl|rfl<;>trivial,B0w,hdf,h⟩
theorem s_cww{off:Nat}(hb0:0<base)(hk:b.kind≠.early)(hr:b.roundOf=none)
  (ho:ops[i]?=some ⟨some d,.call {callee:=.value (.func f),args:=#[o1],argTypes:=ats },ty,pos,af,gu⟩)
  (hw:A0p ops gu ρ=some true)(hn:Nat.blt d N=true)(E:Ext P f fn (Extern.Race.marked .write))(h1:ρ.val o1=some (.pointer (some ⟨A.Wg,off,none⟩)))
  (h:JK P A base Z n (base+A.J) (.inr (.inr .w3)) N b (.inRegion ops rest::k) cs ds ((d,.tuple #[])::ρ) v):XK P false A base Z n (base+A.J) (.inr (.inr .ww)) N b (.inRegion ops (i::rest)::k) cs ds ρ v:=
 s_cl hb0 rfl sM hn fun γ w c O hm hwg hf=>by
  have ea:((#[o1]:Array Operand).map c.eval)[0]?=some (.pointer (some ⟨A.Wg,off,none⟩)):=by simp [A0k hf _ _ h1]
  refine⟨.tuple #[],.w3,γ.wt,w,#[mkE (.write ⟨A.Wg,off,none⟩)],?_,.ww hm,Y,.same hwg,?_,?_,?_,h⟩
  ·rw [A1u hr,A1u hr]
   exact stepG_markAt .write (by intro ad g e;cases e) ho (A0m hf (A0j hw)) hk rfl E.hf E.hname E.hb E.hn E.he ea
  ·intro e he
   simp only [List.mem_toArray,List.mem_singleton]at he
   subst he
   exact⟨say_clo (by rw [hm];rfl) O,.inl Y,⟨.inl Y,usr_of hb0 O (B2c hb0 Y hm)⟩,A5e hwg⟩
  ·intro e he c wr e'
   simp only [List.mem_toArray,List.mem_singleton]at he
   rw [he]at e';cases e'
  ·simp [deafBehind,dfC]
theorem s_w1(hb0:0<base)(hk:b.kind≠.early)(hr:b.roundOf=none)(ho:ops[i]?=some ⟨some d,.call {callee:=.value (.func f),args:=#[o1],argTypes:=ats },ty,pos,af,gu⟩)
  (hw:A0p ops gu ρ=some true)(hn:Nat.blt d N=true)(E:Ext P f fn (Extern.Atomic.loadT (.int .u64)))(h1:ρ.val o1=some (.pointer (some ⟨A.Wg,0,none⟩)))
  (h:∀v':Nat,v'≤201→JK P A base Z n (base+A.J) (.inr (.inr (if v'=0 then .w5 else .wc v'))) N b (.inRegion ops rest::k) cs ds ((d,.int .u64 (wgV v' 0))::ρ) v) :
  XK P false A base Z n (base+A.J) (.inr (.inr .w1)) N b (.inRegion ops (i::rest)::k) cs ds ρ v:=
 s_cl hb0 rfl sM hn fun γ w c O hm hwg hf=>by
  have hwt:=(O.wn (by rw [hm];rfl)).1
  have hvl:=v_le O
  have hst:=stepG_load_atomic (P:=P) (main:=false) (b:=b) (cs:=cs) (kk:=k) (rest:=rest) (w:=w) ho (A0m hf (A0j hw)) hk Y E.hf E.hname E.hb E.hn .u64 E.he (A0k hf _ _ h1) (v:=wgV γ.v γ.wt) (by rw [cell_of hwg];rfl)
  have hj:=h γ.v hvl
  rw [hwt]at hst
  by_cases hv:γ.v=0
  ·rw [if_pos hv]at hj
   exact⟨_,.w5,γ.wt,_,_,by rw [A1u hr,A1u hr];exact hst,.w1Z hm hv,Y,.same hwg,ev_bk hb0 O (B2c hb0 Y hm) (A5e hwg) bk_r,A5l (B:=A.Wg) bk_r,by rw [deaf_r];rfl,hj⟩
  ·rw [if_neg hv]at hj
   exact⟨_,.wc γ.v,γ.wt,_,_,by rw [A1u hr,A1u hr];exact hst,.w1 hm hv,Y,.same hwg,ev_bk hb0 O (B2c hb0 Y hm) (A5e hwg) bk_r,A5l (B:=A.Wg) bk_r,by rw [deaf_r];rfl,hj⟩
theorem s_wc{o:Nat}{u w0:Int}(hb0:0<base)(hk:b.kind≠.early)(hr:b.roundOf=none)(ho:ops[i]?=some ⟨some d,.call {callee:=.value (.func f),args:=#[o1,o2,o3],argTypes:=ats },ty,pos,af,gu⟩)
  (hw:A0p ops gu ρ=some true)(hn:Nat.blt d N=true)(E:Ext P f fn (Extern.Atomic.casT (.int .u64)))(h1:ρ.val o1=some (.pointer (some ⟨A.Wg,0,none⟩)))(h2:ρ.val o2=some (.int .u64 u))(h3:ρ.val o3=some (.int .u64 w0))(hu:u=wgV o 0)(hw0:w0=wgV o 1)
  (hY:JK P A base Z n (base+A.J) (.inr (.inr .ww)) N b (.inRegion ops rest::k) cs ds ((d,.bool true)::ρ) v)(hN:JK P A base Z n (base+A.J) (.inr (.inr .w1)) N b (.inRegion ops rest::k) cs ds ((d,.bool false)::ρ) v) :
  XK P false A base Z n (base+A.J) (.inr (.inr (.wc o))) N b (.inRegion ops (i::rest)::k) cs ds ρ v:=
 s_cl hb0 rfl sM hn fun γ w c O hm hwg hf=>by
  subst hu hw0
  have hwt:=(O.wn (by rw [hm];rfl)).1
  have hc:w.cell? ⟨A.Wg,0,none⟩=some (.int .u64 (wgV γ.v 0)):=by rw [cell_of hwg,hwt];rfl
  by_cases hv:γ.v=o
  ·subst hv
   exact⟨_,.ww,1,_,_,by rw [A1u hr,A1u hr];exact stepG_cas_hit ho (A0m hf (A0j hw)) hk Y E.hf E.hname E.hb E.hn .u64 E.he (A0k hf _ _ h1) (A0k hf _ _ h2) (A0k hf _ _ h3) hc (thaw_of hwg),.wcY hm,Y,onWg0 hwg,ev_bk hb0 O (B2c hb0 Y hm) (A5e hwg) bk_rw,A5l (B:=A.Wg) bk_rw,by rw [deaf_rw];rfl,hY⟩
  ·exact⟨_,.w1,γ.wt,_,_,by rw [A1u hr,A1u hr];exact stepG_cas_miss ho (A0m hf (A0j hw)) hk Y E.hf E.hname E.hb E.hn .u64 E.he (A0k hf _ _ h1) (A0k hf _ _ h2) (A0k hf _ _ h3) hc (thaw_of hwg) (fun e=>hv (wgV_inj e)),.wcN hm hv,Y,.same hwg,ev_bk hb0 O (B2c hb0 Y hm) (A5e hwg) bk_r,A5l (B:=A.Wg) bk_r,by rw [deaf_r];rfl,hN⟩
theorem s_w4(hb0:0<base)(hk:b.kind≠.early)(hr:b.roundOf=none)(ho:ops[i]?=some ⟨some d,.call {callee:=.value (.func f),args:=#[o1],argTypes:=ats },ty,pos,af,gu⟩)
  (hw:A0p ops gu ρ=some true)(hn:Nat.blt d N=true)(E:Ext P f fn (Extern.Atomic.loadT (.int .u64)))(h1:ρ.val o1=some (.pointer (some ⟨A.Wg,0,none⟩)))
  (h:JK P A base Z n (base+A.J) (.inr (.inr .w5)) N b (.inRegion ops rest::k) cs ds ((d,.int .u64 (wgV 0 0))::ρ) v) :
  XK P false A base Z n (base+A.J) (.inr (.inr .w4)) N b (.inRegion ops (i::rest)::k) cs ds ρ v:=
 s_cl hb0 rfl sM hn fun γ w c O hm hwg hf=>by
  have hwt:=(O.wn (by rw [hm];rfl)).1
  have hv:=O.post (by rw [hm];rfl)
  have hst:=stepG_load_atomic (P:=P) (main:=false) (b:=b) (cs:=cs) (kk:=k) (rest:=rest) (w:=w) ho (A0m hf (A0j hw)) hk Y E.hf E.hname E.hb E.hn .u64 E.he (A0k hf _ _ h1) (v:=wgV γ.v γ.wt) (by rw [cell_of hwg];rfl)
  rw [hwt,hv]at hst
  exact⟨_,.w5,γ.wt,_,_,by rw [A1u hr,A1u hr];exact hst,.w4 hm,Y,.same hwg,ev_bk hb0 O (B2c hb0 Y hm) (A5e hwg) bk_r,A5l (B:=A.Wg) bk_r,by rw [deaf_r];rfl,h⟩
theorem s_w3{as':List Operand}(hb0:0<base)(hk:b.kind≠.early)(hr:b.roundOf=none)(ho:ops[i]?=some ⟨some d,.call {callee:=.value (.func f),args:=aS,argTypes:=ats },ty,pos,af,gu⟩)(has:aS.toList=o1::as')
  (hw:A0p ops gu ρ=some true)(hn:Nat.blt d N=true)(E:Ext P f fn Extern.Sync.semacquire)(h1:ρ.val o1=some (.pointer (some ⟨A.Wg,1,none⟩)))
  (h:JK P A base Z n (base+A.J) (.inr (.inr .w4)) N b (.inRegion ops rest::k) cs ds ((d,.tuple #[])::ρ) v) :
  XK P false A base Z n (base+A.J) (.inr (.inr .w3)) N b (.inRegion ops (i::rest)::k) cs ds ρ v:=fun c hf=>by
 have ea:(aS.map c.eval)[0]?=some (.pointer (some ⟨A.Wg,1,none⟩)):=by
  have:aS=(o1::as').toArray:=by rw [←has]
  subst this
  have:=A0k hf _ _ h1
  simp [this]
 refine .stop (Le.refl v) (.inl ⟨Y,Y,at_cl hb0 Y Y Y fun γ w O hm hwg=>?_⟩)
 have hc:w.cell? ⟨A.Wg,1,none⟩=some (.int .u32 γ.sm):=by rw [cell_of hwg];rfl
 refine⟨fun⟨_,e⟩=>?_,fun hne=>?_⟩
 ·rw [e]at hc
  rw [A1u hr]
  exact stepG_semacquire_wait ho (A0m hf (A0j hw)) Y E.hf E.hname E.hb E.hn E.he ea hc
 ·obtain⟨s,hs⟩:∃s,γ.sm=s+1:=⟨γ.sm-1,by
   have:γ.sm≠0:=fun e=>hne ⟨Y,e⟩
   omega⟩
  have hwg':=hwg
  rw [hs]at hc hwg'
  have hst:=stepG_semacquire (P:=P) (main:=false) (b:=b) (cs:=cs) (kk:=k) (rest:=rest) ho (A0m hf (A0j hw)) hk Y E.hf E.hname E.hb E.hn E.he ea hc oM (thaw_of hwg')
  rw [show((s+1:Nat):Int)-1=(s:Int) by omega]at hst
  refine⟨.w4,γ.wt,s,_,_,_,by rw [A1u hr];exact hst,.w3 hm hs,Y,onWg1 hwg',ev_bk hb0 O (B2c hb0 Y hm) (A5e hwg) bk_sem,A5l (B:=A.Wg) bk_sem,by rw [deaf_sem];rfl,?_⟩
  rw [←A1u hr];exact h _ (A0x hf (show A2p N (some d)=true from hn))
theorem s_w6(hb0:0<base)(hk:b.kind≠.early)(hr:b.roundOf=none)(ho:ops[i]?=some ⟨some d,.call {callee:=.value (.func f),args:=#[o1],argTypes:=ats },ty,pos,af,gu⟩)
    (hw:A0p ops gu ρ=some true)(hn:Nat.blt d N=true)(E:Ext P f fn (Extern.Race.marked .acquire))(h1:ρ.val o1=some (.pointer (some ⟨A.Wg,0,none⟩)))
    (h:JK P A base Z n (base+A.J) (.inr (.inr .cl)) N b (.inRegion ops rest::k) cs ds ((d,.tuple #[])::ρ) v):XK P false A base Z n (base+A.J) (.inr (.inr .w6)) N b (.inRegion ops (i::rest)::k) cs ds ρ v:=fun c hf=>by
  refine .stop (Le.refl v) (.inl ⟨Y,Y,Y,Y,fun e=>(by cases e),fun γ w O hth hag hS hd hcalm=>?_⟩)
  have hth:thF A base γ (base+A.J)=some (.inr (.inr .w6)):=hth
  obtain⟨hc,_⟩:=cl_of hb0 hth
  have hwg:w.heap[A.Wg]?=some (wgB A.tW γ.v γ.wt γ.sm):=hS A.Wg true _ A9l
  have hi0:base+A.J≠0:=oM
  have hbq:(base+A.J==0)=false:=by simpa using hi0
  rw [hbq]
  refine⟨fun⟨_,h1,_⟩=>absurd (hc ▸ h1) sM,fun _=>?_⟩
  have ea:((#[o1]:Array Operand).map c.eval)[0]?=some (.pointer (some ⟨A.Wg,0,none⟩)):=by simp [A0k hf _ _ h1]
  have hstep:stepG P false (G (b.on c (.inRegion ops (i::rest)::k)) cs) w = .go (G (b.on (c.put (some d) (.tuple #[])) (.inRegion ops rest::k)) cs) w #[mkE (.acquire ⟨A.Wg,0,none⟩)]:=by
    rw [A1u hr,A1u hr]
    exact stepG_markAt .acquire (fun ad g e=>by cases e) ho (A0m hf (A0j hw)) hk rfl E.hf E.hname E.hb E.hn E.he ea
  have hth':thF A base {γ with cl:=.cl } (base+A.J)=some (.inr (.inr .cl)):=B1i hb0 rfl sM sM
  have hgone:=O.gone (by rw [hc];rfl)
  have hf0:isF γ.mn=false:=by
    cases e:isF γ.mn with
    | false=>rfl
    | true=>have:=O.fin e;rw [hc]at this;cases this
  refine .on {γ with cl:=.cl } (.inr (.inr .cl)) v _ w _ (by rw [hbq];exact hstep) (ss_of (o:=wgB A.tW γ.v γ.wt γ.sm) (.w6 hc) Y hag hS hd (.inl Y) (.same hwg) A9l (A9m (.inr (.inl ⟨Y,Y,by rw [hc];rfl⟩))) ?_ ?_ (.inl ?_) (fun h=>(by cases h)) fun a ha1 ha2=>?_) hth' (fun h=>(by cases h)) (h _ (A0x hf (show A2p N (some d)=true from hn)))
  · intro e he
    simp only [List.mem_toArray,List.mem_singleton]at he
    subst he
    exact A5e hwg
  · intro σ hσ;rw [hth']at hσ;cases hσ;simp [deafBehind,dfC]
  · intro e he c wr e'
    simp only [List.mem_toArray,List.mem_singleton]at he
    rw [he]at e';cases e'
  · by_cases e:a<base+A.J
    · refine .inr (.inr (.inl ⟨_,Y,Y,?_,?_,oM⟩))
      · show tokF A base γ a=_
        unfold tokF
        rw [if_neg oM,if_pos e,hgone (a-base) oM,hc]
        rfl
      · show tokF A base {γ with cl:=.cl } a=_
        unfold tokF
        rw [if_neg oM,if_pos e]
        dsimp only
        rw [hgone (a-base) oM]
        rfl
    · refine .inl ⟨?_,fun e'=>.inl ⟨?_,_,hth',Y⟩⟩
      · show tokF A base {γ with cl:=.cl } a=tokF A base γ a
        unfold tokF
        rw [if_neg oM,if_neg e,if_neg oM,if_neg e,hc]
        rfl
      · show tokF A base γ (base+A.J)=_
        rw [tok_clo,hc];rfl
theorem s_close{x:Operand}{dd:Option Nat}(hb0:0<base)(hk:b.kind≠.early)(hr:b.roundOf=none)(ho:ops[i]?=some ⟨dd,.call {callee:=.builtin .close,args:=#[x],argTypes:=ats },ty,pos,af,gu⟩)
    (hw:A0p ops gu ρ=some true)(hn:A2p N dd=true)(hx:ρ.val x=some (.chan (some A.Ch)))(hq:(P.funcs[b.fn]?).any (·.norace)=false)
    (h:XG (A8w P 0) N b (.inRegion ops rest::k) cs ds (putR dd (.tuple #[]) ρ)):XK P false A base Z n (base+A.J) (.inr (.inr .cl)) N b (.inRegion ops (i::rest)::k) cs ds ρ v:=fun c hf=>by
  refine .stop (Le.refl v) (.inl ⟨Y,Y,Y,Y,fun _=>?_,fun γ w O hth hag hS hd hcalm=>?_⟩)
  · simp [mayWake,G,Frame.on,ho]
  have hth:thF A base γ (base+A.J)=some (.inr (.inr .cl)):=hth
  obtain⟨hc,_⟩:=cl_of hb0 hth
  have hch:w.heap[A.Ch]?=some (.chan 0 #[] false γ.s γ.s false):=by
    have:=hS A.Ch true _ sh_ch
    rw [hc]at this
    exact this
  have hi0:base+A.J≠0:=oM
  have hbq:(base+A.J==0)=false:=by simpa using hi0
  rw [hbq]
  refine⟨fun⟨_,h1,_⟩=>absurd (hc ▸ h1) sM,fun _=>?_⟩
  have hstep:=stepG_close (P:=P) (main:=false) (b:=b) (cs:=cs) (kk:=k) (rest:=rest) ho (A0m hf (A0j hw)) hk Y (A0k hf _ _ hx) hch hq
  have hth':thF A base {γ with cl:=.off } (base+A.J)=none:=th_cloff hb0 rfl
  have hgone:=O.gone (by rw [hc];rfl)
  have hf0:isF γ.mn=false:=by
    cases e:isF γ.mn with
    | false=>rfl
    | true=>have:=O.fin e;rw [hc]at this;cases this
  obtain⟨kq,hkq⟩:=h _ (A0x hf hn)
  have hlt:A.Ch<w.heap.size:=(Array.getElem?_eq_some_iff.1 hch).1
  have hon:OnB A.Ch (.chan 0 #[] true γ.s γ.s false) w (w.setChan A.Ch 0 #[] true γ.s γ.s false):=by
    refine⟨Y,Y,.refl _,by simp [World.setChan],by simp [World.setChan,hlt],fun b' hb'=>?_⟩
    simp [World.setChan,Array.getElem?_setIfInBounds_ne (Ne.symm hb')]
  have hus:∀c,(c=A.Wg∨c=A.Ch)→(A0w A base).usr γ c (base+A.J):=fun c hc=>⟨hc,usr_of hb0 O hth⟩
  refine .quit {γ with cl:=.off } _ _ _ kq hi0 (by rw [A1u hr];exact hstep) Y (ss_none (ss_of (.cl hc) Y hag hS hd (.inr Y) hon sh_ch (A9m (.inr (.inr ⟨Y,Y,Y,Y⟩))) ?_ ?_ (.inr ⟨Y,Y,oM,?_⟩) (fun h=>(by cases h)) fun a ha1 ha2=>?_)) hth' ?_
  · intro e he
    simp only [closeEvents,List.mem_toArray,List.mem_cons,List.not_mem_nil,or_false]at he
    rcases he with rfl|rfl
    · exact⟨.inr Y,hus _ (.inr Y),hlt⟩
    · exact⟨.inr Y,hus _ (.inr Y),hlt⟩
  · intro σ hσ;rw [hth']at hσ;cases hσ
  · rcases usr_of hb0 O hth with h|h
    · omega
    · exact h.2
  · refine .inr (.inr (.inr ⟨Y,Y,?_,?_⟩))
    · show tokF A base {γ with cl:=.off } a=_
      unfold tokF
      rw [if_neg oM]
      dsimp only
      rw [hf0]
      split
      · rw [hgone (a-base) oM];rfl
      · rfl
    · by_cases e:a<base+A.J
      · right
        show tokF A base γ a=_
        unfold tokF
        rw [if_neg oM,if_pos e,hgone (a-base) oM,hc]
        rfl
      · left
        have:=O.stJ
        omega
  · rw [show(b.at (c.put dd (.tuple #[])) (.inRegion ops rest::k))=b.on (c.put dd (.tuple #[])) (.inRegion ops rest::k)from(A1u hr _ _).symm]
    exact hkq
end
section
variable{P:Program}{A:Par}{base:Nat}{Z:View→Goroutine→Prop}{n j:Nat}{N:Nat}{b:Frame}{cs:List Frame}{ds:List Deferred}{ρ:Regs}{v:View}{k:List Item}{ops:Array Oper}{i:Nat}{rest:List Nat}{d:Nat}{op:Op}{ty:TypeId}{pos:String}{af:Array Edge}{gu:Option (Nat×Bool)}
variable{f:FuncId}{fn:Func}{aS:Array Operand}{ats:Array TypeId}{o1 o2 o3:Operand}{γ:FS A.M}{X:Nat→TF A→View→Goroutine→Prop}{g:Goroutine}
theorem nblk0(hb0:0<base):¬blkF A base γ 0:=fun⟨e,_⟩=>by omega
theorem at_mn(hb0:0<base){q:Mn A.M}(hq:isR q=false)(hrun:g.status = .running)(hoff:g.offers=none)
  (h:∀γ w,Ok A.J A.Ls γ→γ.mn=q→w.heap[A.Wg]?=some (wgB A.tW γ.v γ.wt γ.sm)→∃q' v' g' w' es,stepG P true g w = .go g' w' es∧Tr A.J A.Ls base γ 0 {γ with mn:=q',v:=v' }∧isR q'=false∧
   OnB A.Wg (wgB A.tW v' γ.wt γ.sm) w w'∧(∀e∈es,K.EvS (A0w A base) γ 0 w.heap.size e)∧(∀e∈es,∀c wr,e≠⟨.obj c,wr,true⟩)∧deafBehind (dfM q) es=dfM q'∧X 0 (.inl q') v g') :
  K.AtF P (A0w A base) base Z X 0 (.inl q) v g:=by
 refine⟨hrun,hoff,fun e=>(by cases e),fun γ w O hth hag hS hd hcalm=>?_⟩
 have hm:γ.mn=q:=mn_of (base:=base) hth
 have hwg:w.heap[A.Wg]?=some (wgB A.tW γ.v γ.wt γ.sm):=hS A.Wg true _ A9l
 obtain⟨q',v',g',w',es,h1,h2,h3,h4,h5,h6,h7,hx⟩:=h γ w O hm hwg
 refine⟨fun hbl=>absurd hbl (nblk0 hb0),fun _=>?_⟩
 have hf:∀{q:Mn A.M},isR q=false→isF q=false:=fun {q} h=>by cases q<;>first|rfl|cases h
 have hth':thF A base {γ with mn:=q',v:=v' } 0=some (.inl q'):=A2o
 exact .on _ (.inl q') v g' w' es h1 (ss_of h2 Y hag hS hd (.inl Y) h4 A9l (A9m (.inl ⟨Y,Y,Y⟩)) h5 (fun σ hσ=>by rw [hth']at hσ;cases hσ;exact h7) (.inl h6) (fun h=>(by cases h)) (mv_main hb0 rfl rfl (by rw [hm,hf hq];exact hf h3))) hth' (fun h=>(by cases h)) hx
theorem s_mn(hb0:0<base){q:Mn A.M}(hq:isR q=false)(hn:Nat.blt d N=true)
  (h:∀γ w c,Ok A.J A.Ls γ→γ.mn=q→w.heap[A.Wg]?=some (wgB A.tW γ.v γ.wt γ.sm)→Fits N ⟨ds,ρ,[]⟩ c→∃y q' v' w' es,stepG P true (G (b.on c (.inRegion ops (i::rest)::k)) cs) w = .go (G (b.on (c.put (some d) y) (.inRegion ops rest::k)) cs) w' es∧
   Tr A.J A.Ls base γ 0 {γ with mn:=q',v:=v' }∧isR q'=false∧OnB A.Wg (wgB A.tW v' γ.wt γ.sm) w w'∧(∀e∈es,K.EvS (A0w A base) γ 0 w.heap.size e)∧(∀e∈es,∀c wr,e≠⟨.obj c,wr,true⟩)∧deafBehind (dfM q) es=dfM q'∧
   JK P A base Z n 0 (.inl q') N b (.inRegion ops rest::k) cs ds ((d,y)::ρ) v) :
  XK P true A base Z n 0 (.inl q) N b (.inRegion ops (i::rest)::k) cs ds ρ v:=fun c hf=>by
 refine .stop (Le.refl v) (.inl ⟨Y,(by cases q<;>first|rfl|cases hq),at_mn hb0 hq rfl rfl fun γ w O hm hwg=>?_⟩)
 obtain⟨y,q',v',w',es,h1,h2,h3,h4,h5,h6,h7,h8⟩:=h γ w c O hm hwg hf
 exact⟨q',v',_,w',es,h1,h2,h3,h4,h5,h6,h7,h8 _ (A0x hf (show A2p N (some d)=true from hn))⟩
theorem s_a0{kk:Nat}(hb0:0<base)(hk:b.kind≠.early)(hr:b.roundOf=none)(ho:ops[i]?=some ⟨some d,.call {callee:=.value (.func f),args:=aS,argTypes:=ats },ty,pos,af,gu⟩)
  (hw:A0p ops gu ρ=some true)(hn:Nat.blt d N=true)(E:Ext P f fn (fun _=>do mark .disable;pure Extern.Race.none_))
  (h:JK P A base Z n 0 (.inl (.a1 kk)) N b (.inRegion ops rest::k) cs ds ((d,.tuple #[])::ρ) v):XK P true A base Z n 0 (.inl (.a0 kk)) N b (.inRegion ops (i::rest)::k) cs ds ρ v:=
 s_mn hb0 rfl hn fun γ w c O hm hwg hf=>⟨.tuple #[],.a1 kk,γ.v,w,#[mkE .disable],by
  rw [A1u hr,A1u hr]
  exact stepG_mark0 .disable (by intro g e;cases e) ho (A0m hf (A0j hw)) hk rfl E.hf E.hname E.hb E.hn E.he,.a0 hm,rfl,.same hwg,ev_bk hb0 O (by rw [A2o]) (A5e hwg) bk_dis,B0w,by rw [deaf_dis];rfl,h⟩
theorem s_a1{kk:Nat}(hb0:0<base)(hk:b.kind≠.early)(hr:b.roundOf=none)(ho:ops[i]?=some ⟨some d,.call {callee:=.value (.func f),args:=#[o1,o2],argTypes:=ats },ty,pos,af,gu⟩)
  (hw:A0p ops gu ρ=some true)(hn:Nat.blt d N=true)(E:Ext P f fn (Extern.Atomic.update (Op.intArith .add) .u64 true))(h1:ρ.val o1=some (.pointer (some ⟨A.Wg,0,none⟩)))(h2:ρ.val o2=some (.int .u64 4294967296))
  (h:∀v':Nat,v'≤201→JK P A base Z n 0 (.inl (if v'=0 then .ar kk else .a2 kk)) N b (.inRegion ops rest::k) cs ds ((d,.int .u64 (wgV (v'+1) 0))::ρ) v) :
  XK P true A base Z n 0 (.inl (.a1 kk)) N b (.inRegion ops (i::rest)::k) cs ds ρ v:=
 s_mn hb0 rfl hn fun γ w c O hm hwg hf=>by
  have hcu:=O.cun (k:=kk) (by rw [hm];rfl)
  have hwt:=(O.wn (by rw [hcu];rfl)).1
  have hvl:=v_le O
  have hst:=stepG_add_atomic (P:=P) (main:=true) (b:=b) (cs:=cs) (kk:=k) (rest:=rest) (w:=w) ho (A0m hf (A0j hw)) hk Y E.hf E.hname E.hb E.hn .u64 E.he (A0k hf _ _ h1) (A0k hf _ _ h2) (v:=wgV γ.v γ.wt) (by rw [cell_of hwg];rfl) (thaw_of hwg)
  have hwr:IntKind.u64.wrap (wgV γ.v γ.wt+4294967296)=wgV (γ.v+1) γ.wt:=by rw [Mu.wrap_u64];simp only [wgV];omega
  rw [hwr]at hst
  refine⟨_,(if γ.v=0 then .ar kk else .a2 kk),γ.v+1,_,_,by rw [A1u hr,A1u hr];exact hst,.a1 hm,by split<;>rfl,onWg0 hwg,ev_bk hb0 O (by rw [A2o]) (A5e hwg) bk_rw,A5l (B:=A.Wg) bk_rw,by rw [deaf_rw];split<;>rfl,?_⟩
  rw [hwt];exact h γ.v hvl
theorem s_ar{kk off:Nat}(hb0:0<base)(hk:b.kind≠.early)(hr:b.roundOf=none)
  (ho:ops[i]?=some ⟨some d,.call {callee:=.value (.func f),args:=#[o1],argTypes:=ats },ty,pos,af,gu⟩)
  (hw:A0p ops gu ρ=some true)(hn:Nat.blt d N=true)(E:Ext P f fn (Extern.Race.marked .read))(h1:ρ.val o1=some (.pointer (some ⟨A.Wg,off,none⟩)))
  (h:JK P A base Z n 0 (.inl (.a2 kk)) N b (.inRegion ops rest::k) cs ds ((d,.tuple #[])::ρ) v):XK P true A base Z n 0 (.inl (.ar kk)) N b (.inRegion ops (i::rest)::k) cs ds ρ v:=
 s_mn hb0 rfl hn fun γ w c O hm hwg hf=>by
  have ea:((#[o1]:Array Operand).map c.eval)[0]?=some (.pointer (some ⟨A.Wg,off,none⟩)):=by simp [A0k hf _ _ h1]
  refine⟨.tuple #[],.a2 kk,γ.v,w,#[mkE (.read ⟨A.Wg,off,none⟩)],?_,.ar hm,Y,.same hwg,?_,B0w,?_,h⟩
  ·rw [A1u hr,A1u hr]
   exact stepG_markAt .read (by intro ad g e;cases e) ho (A0m hf (A0j hw)) hk rfl E.hf E.hname E.hb E.hn E.he ea
  ·intro e he
   simp only [List.mem_toArray,List.mem_singleton]at he
   subst he
   refine⟨?_,.inl Y,⟨.inl Y,.inl Y⟩,A5e hwg⟩
   show(if γ.st≤A.J then _ else _)=_
   rw [if_pos (by have:=O.stk kk (by rw [hm];rfl);omega)]
  ·simp [deafBehind,dfM]
theorem s_a2{kk:Nat}{its:List Item}{args:Array Value}(hb0:0<base)(hr:b.roundOf=none)(E:Ext P f fn (fun _=>do mark .enable;pure Extern.Race.none_))
  (h:XB (K.Job P (A0w A base) base Z n 0 (.inl (.go kk)) v) N b its cs ds ρ):XB (RunW P true (K.Proto.Wd (A0w A base)) (AtK P A base Z n 0 (.inl (.a2 kk))) v) N b its cs (dcall f args::ds) ρ:=fun c hf=>by
 refine .stop (Le.refl v) (.inl ⟨Y,Y,at_mn hb0 Y Y Y fun γ w O hm hwg=>?_⟩)
 refine⟨.go kk,γ.v,G (b.out ⟨c.tmps,ds⟩ its) cs,w,#[mkE .enable],?_,.a2 hm,Y,.same hwg,ev_bk hb0 O (by rw [A2o]) (A5e hwg) bk_en,B0w,by rw [deaf_en];rfl,h _ ⟨hf.size,Y,hf.get⟩⟩
 have:=stepG_unwind_entry (P:=P) (main:=true) (b:=b) (a:=c) (cs:=cs) (w:=w) (todo:=its) (ds:=ds) (args:=args) hf.defers E.hf E.hname E.hb E.hn E.he (v:=.tuple #[]) (w':=w) (evs:=#[mkE .enable]) Y Y (by
  intro e he;simp at he;subst he;exact⟨rfl,fun g h=>by cases h⟩)
 simp only [Frame.out,A1u hr]
 exact this
theorem go_step{w:World}{cap:Array Value}{c:Act}(hf:Fits N ⟨ds,ρ,[]⟩ c)(hk:b.kind≠.early)(ho:ops[i]?=some ⟨none,.go {callee:=.value o1,args:=#[],argTypes:=ats },ty,pos,af,gu⟩)
  (hw:A0p ops gu ρ=some true)(hr:b.roundOf=none)(h1:ρ.val o1=some (.func (.func f) #[] cap)):stepG P true (G (b.on c (.inRegion ops (i::rest)::k)) cs) w = .spawn (G (b.on c (.inRegion ops rest::k)) cs) (born P {target:=.fn (.func f) cap,args:=#[] }) w #[]:=by
 have e1:c.eval o1=_:=A0k hf _ _ h1
 have hrun:(execOp c.eval ⟨none,.go {callee:=.value o1,args:=#[],argTypes:=ats },ty,pos,af,gu⟩).run P w = .ok (.spawn {target:=.fn (.func f) cap,args:=#[] }) w:=by
  unfold execOp
  simp [resolve,Deferred.ofValue,e1]
 have hev:(execOp c.eval ⟨none,.go {callee:=.value o1,args:=#[],argTypes:=ats },ty,pos,af,gu⟩).events P w #[]=#[]:=by
  unfold execOp
  simp [resolve,Deferred.ofValue,e1]
 have hstep:=stepG_spawn (P:=P) (main:=true) (b:=b) (a:=c) (cs:=cs) (k:=k) (rest:=rest) (w:=w) ho (A0m hf (A0j hw)) hk hrun Y
 unfold listed at hstep
 rw [hev,seen_none]at hstep
 rw [A1u hr,A1u hr]
 exact hstep
theorem s_go{kk:Nat}{cap:Array Value}{u uc:View}(hb0:0<base)(hk:b.kind≠.early)(hr:b.roundOf=none)(ho:ops[i]?=some ⟨none,.go {callee:=.value o1,args:=#[],argTypes:=ats },ty,pos,af,gu⟩)
  (hw:A0p ops gu ρ=some true)(h1:ρ.val o1=some (.func (.func f) #[] cap))(hu:u.Le v)(huc:Weak uc v)(hex:∀b',(u.Owns b'→uc b'=none)∧(uc.Owns b'→u b'=none))
  (hx:JK P A base Z n 0 (.inl (if kk+1<A.J then .a0 (kk+1)else .gc)) N b (.inRegion ops rest::k) cs ds ρ u)(hxc:K.Job P (A0w A base) base Z n (base+kk) (.inr (.inl (.sd (A.Ls kk)))) uc (born P {target:=.fn (.func f) cap,args:=#[] })) :
  XK P true A base Z n 0 (.inl (.go kk)) N b (.inRegion ops (i::rest)::k) cs ds ρ v:=fun c hf=>by
 refine .stop (Le.refl v) (.inl ⟨Y,Y,Y,Y,fun e=>(by cases e),fun γ w O hth hag hS hd hcalm=>⟨fun hbl=>absurd hbl (nblk0 hb0),fun _=>?_⟩⟩)
 have hm:γ.mn = .go kk:=mn_of (base:=base) hth
 obtain⟨hst,hkJ⟩:=O.stk kk (by rw [hm];rfl)
 have hoff:γ.ph kk = .un:=(O.uns kk).2 (.inl oM)
 have hcu:=O.cun (k:=kk) (by rw [hm];rfl)
 have hthc:thF A base {γ with mn:=if kk+1<A.J then .a0 (kk+1)else .gc,st:=kk+1,ph:=upd γ.ph kk (.sd (A.Ls kk)) } (base+γ.st)=some (.inr (.inl (.sd (A.Ls kk)))):=by rw [hst];exact A9f hb0 hkJ (upd_same _ _ _) sM sM
 refine .spawn {γ with mn:=if kk+1<A.J then .a0 (kk+1)else .gc,st:=kk+1,ph:=upd γ.ph kk (.sd (A.Ls kk)) } (.inl (if kk+1<A.J then .a0 (kk+1)else .gc)) (.inr (.inl (.sd (A.Ls kk)))) u uc _ _ (go_step hf hk ho hw hr h1) (.go hm) (by show base+(kk+1)=base+γ.st+1;omega) (A2o (base:=base)) hthc Y ?_ Y Y ?_ Y Y Y (fun b' j' hj'=>?_) (fun b'=>.inl ?_) (fun a ha=>?_) ?_ hu huc hex (hx _ hf) ?_
 ·show dfM (if kk+1<A.J then Mn.a0 (kk+1)else Mn.gc:Mn A.M)=0
  split<;>rfl
 ·by_cases h:kk+1<A.J
  ·rw [if_pos h]
  ·rw [if_neg h]
 ·obtain⟨e1,e2⟩:(b'=A.Wg∨b'=A.Ch)∧(j'=0∨(base≤j'∧j'<base+(kk+1))):=hj'
  by_cases e:j'=base+γ.st
  ·exact .inr ⟨e,e1,.inl Y⟩
  ·exact .inl ⟨e1,oM⟩
 ·show(if kk+1≤A.J then _ else _)=if γ.st≤A.J then _ else _
  rw [if_pos oM,if_pos oM]
 ·have ha:a≠base+γ.st:=ha
  show tokF A base {γ with mn:=_,st:=_,ph:=_ } a=tokF A base γ a
  unfold tokF
  dsimp only
  split
  ·rfl
  ·split
   ·rw [upd_ne _ _ oM]
    have:isF (if kk+1<A.J then Mn.a0 (kk+1)else Mn.gc:Mn A.M)=isF γ.mn:=by rw [hm];split<;>rfl
    rw [this]
   ·rw [hcu];rfl
 ·show tokF A base {γ with mn:=_,st:=_,ph:=_ } (base+γ.st) = .own
  rw [hst,tok_work hkJ]
  dsimp only
  rw [upd_same]
  rfl
 ·rw [show(A0w A base).size γ=base+kk by show base+γ.st=_;rw [hst]]
  exact hxc
theorem s_gc{cap:Array Value}{u uc:View}(hb0:0<base)(hk:b.kind≠.early)(hr:b.roundOf=none)(ho:ops[i]?=some ⟨none,.go {callee:=.value o1,args:=#[],argTypes:=ats },ty,pos,af,gu⟩)
  (hw:A0p ops gu ρ=some true)(h1:ρ.val o1=some (.func (.func f) #[] cap))(hu:u.Le v)(huc:Weak uc v)(hex:∀b',(u.Owns b'→uc b'=none)∧(uc.Owns b'→u b'=none))
  (hx:JK P A base Z n 0 (.inl (.rc [])) N b (.inRegion ops rest::k) cs ds ρ u)(hxc:K.Job P (A0w A base) base Z n (base+A.J) (.inr (.inr .w0)) uc (born P {target:=.fn (.func f) cap,args:=#[] })) :
  XK P true A base Z n 0 (.inl .gc) N b (.inRegion ops (i::rest)::k) cs ds ρ v:=fun c hf=>by
 refine .stop (Le.refl v) (.inl ⟨Y,Y,Y,Y,fun e=>(by cases e),fun γ w O hth hag hS hd hcalm=>⟨fun hbl=>absurd hbl (nblk0 hb0),fun _=>?_⟩⟩)
 have hm:γ.mn = .gc:=mn_of (base:=base) hth
 have hst:=O.stg hm
 have hcu:γ.cl = .un:=O.cls.2 oM
 have hthc:thF A base {γ with mn:=.rc [],st:=A.J+1,cl:=.w0 } (base+γ.st)=some (.inr (.inr .w0)):=by rw [hst];exact B1i hb0 Y sM sM
 have hsh:shF A {γ with mn:=.rc [],st:=A.J+1,cl:=.w0 }=shF A γ:=by
  funext b'
  unfold shF
  rw [hcu]
  rfl
 refine .spawn {γ with mn:=.rc [],st:=A.J+1,cl:=.w0 } (.inl (.rc [])) (.inr (.inr .w0)) u uc _ _ (go_step hf hk ho hw hr h1) (.gc hm) (by show base+(A.J+1)=base+γ.st+1;omega) (A2o (base:=base)) hthc Y Y Y Y Y Y hsh Y (fun b' j' hj'=>?_) (fun b'=>.inr ?_) (fun a ha=>?_) ?_ hu huc hex (hx _ hf) ?_
 ·obtain⟨e1,e2⟩:(b'=A.Wg∨b'=A.Ch)∧(j'=0∨(base≤j'∧j'<base+(A.J+1))):=hj'
  by_cases e:j'=base+γ.st
  ·exact .inr ⟨e,e1,.inl Y⟩
  ·exact .inl ⟨e1,oM⟩
 ·show(if γ.st≤A.J then 0 else base+A.J)=0∧(if A.J+1≤A.J then 0 else base+A.J)=base+γ.st
  rw [if_pos oM,if_neg oM,hst]
  exact⟨Y,Y⟩
 ·have ha:a≠base+γ.st:=ha
  show tokF A base {γ with mn:=.rc [],st:=A.J+1,cl:=.w0 } a=tokF A base γ a
  have hfm:isF γ.mn=false:=by rw [hm];rfl
  unfold tokF
  dsimp only
  rw [hcu,hfm]
  split
  ·rfl
  ·split
   ·cases γ.ph (a-base)<;>rfl
   ·rfl
 ·show tokF A base {γ with mn:=.rc [],st:=A.J+1,cl:=.w0 } (base+γ.st) = .own
  rw [hst,tok_clo]
  rfl
 ·rw [show(A0w A base).size γ=base+A.J by show base+γ.st=_;rw [hst]]
  exact hxc
theorem s_recv{l:List A.M}{z:Value}(hk:b.kind≠.early)(hrun:∀c,Fits N ⟨ds,ρ,[]⟩ c→∀w,(execOp c.eval ⟨some d,op,ty,pos,af,gu⟩).runT P w #[]=(.ok (.comm #[rcase A.Ch z] true (.recv true)) w,#[]))
  (hd:b.roundOf=none∨A1t op=false)(ho:ops[i]?=some ⟨some d,op,ty,pos,af,gu⟩)(hw:A0p ops gu ρ=some true)(hn:Nat.blt d N=true)
  (hm:∀m y ux,A.msg m y ux→(∃γ,Ok A.J A.Ls γ∧γ.mn = .rc (l++[m]))→(∀b,ux b≠none→ux.Owns b)→Disj v ux→JK P A base Z n 0 (.inl (.rc (l++[m]))) N b (.inRegion ops rest::k) cs ds ((d,.tuple #[y,.bool true])::ρ) (v.union ux))
  (hF:JK P A base Z n 0 (.inl (.fin l)) N b (.inRegion ops rest::k) cs ds ((d,.tuple #[z,.bool false])::ρ) v) :
  XK P true A base Z n 0 (.inl (.rc l)) N b (.inRegion ops (i::rest)::k) cs ds ρ v:=fun c hf=>by
 have hfin:∀y,(b.on c (.inRegion ops (i::rest)::k)).finish y=b.on (c.put (some d) y) (.inRegion ops rest::k):=fun y=>A2g b c ops i rest k _ y ho
 have hsv:∀y,Go.Conc.served (G (b.on c (.inRegion ops (i::rest)::k)) cs) y=G (b.on (c.put (some d) y) (.inRegion ops rest::k)) cs:=fun y=>by
  rw [←hfin y];rfl
 refine .stop (Le.refl v) (.inr (.inr ⟨Y,z,Y,fun w _=>?_,fun m y ux h1 h0 h2 h3=>?_,?_⟩))
 ·have hk':((b.on c (.inRegion ops (i::rest)::k)).kind==CallKind.early)=false:=by simpa [Frame.on]using hk
  have hst:=A2a (P:=P) (mn:=⟨true,false⟩) (b:=b) (k:=k) (cs:=cs) (w:=w) (rest:=rest) ho (A0m hf (A0j hw)) hd
  have hst:stepG P true (G (b.on c (.inRegion ops (i::rest)::k)) cs) w=_:=hst
  rw [show((0:Nat)==0)=true from Y,hst]
  unfold stepG.apply
  simp only [if_true,hrun c hf w,hk',Bool.false_eq_true,if_false]
  rfl
 ·rw [hsv]
  exact hm m y ux h1 (by obtain⟨γ,q1,q2⟩:=h0;exact⟨γ,q1,mn_of (base:=base) q2⟩) h2 h3 _ (A0x hf (show A2p N (some d)=true from hn))
 ·rw [hsv]
  exact hF _ (A0x hf (show A2p N (some d)=true from hn))
theorem s_send{m:A.M}{l:List A.M}{y z:Value}{u0 ux:View}(hb0:0<base)(hk:b.kind≠.early)(hrun:∀c,Fits N ⟨ds,ρ,[]⟩ c→∀w,(execOp c.eval ⟨none,op,ty,pos,af,gu⟩).runT P w #[]=(.ok (.comm #[scase A.Ch y z] true .send) w,#[]))
  (hd:b.roundOf=none∨A1t op=false)(ho:ops[i]?=some ⟨none,op,ty,pos,af,gu⟩)(hw:A0p ops gu ρ=some true)
  (hmsg:A.msg m y ux)(hux:∀b,ux b≠none→ux.Owns b∧u0 b=none)(h0:u0.Le v)(h1:ux.Le v)
  (h:JK P A base Z n (base+j) (.inr (.inl (.sd l))) N b (.inRegion ops rest::k) cs ds ρ u0) :
  XK P false A base Z n (base+j) (.inr (.inl (.sd (m::l)))) N b (.inRegion ops (i::rest)::k) cs ds ρ v:=fun c hf=>by
 have hfin:∀y,(b.on c (.inRegion ops (i::rest)::k)).finish y=b.on (c.put none y) (.inRegion ops rest::k):=fun y=>A2g b c ops i rest k _ y ho
 have hsv:∀y,Go.Conc.served (G (b.on c (.inRegion ops (i::rest)::k)) cs) y=G (b.on (c.put none y) (.inRegion ops rest::k)) cs:=fun y=>by
  rw [←hfin y];rfl
 have hbq:(base+j==0)=false:=by simp;omega
 refine .stop (Le.refl v) (.inr (.inl ⟨Y,y,z,m,u0,ux,Y,hmsg,hux,h0,h1,fun w _=>?_,?_⟩))
 ·have hk':((b.on c (.inRegion ops (i::rest)::k)).kind==CallKind.early)=false:=by simpa [Frame.on]using hk
  have hst:=A2a (P:=P) (mn:=⟨false,false⟩) (b:=b) (k:=k) (cs:=cs) (w:=w) (rest:=rest) ho (A0m hf (A0j hw)) hd
  have hst:stepG P false (G (b.on c (.inRegion ops (i::rest)::k)) cs) w=_:=hst
  rw [hbq,hst]
  unfold stepG.apply
  simp only [if_true,hrun c hf w,hk',Bool.false_eq_true,if_false]
  rfl
 ·rw [hsv]
  exact h _ hf
theorem s_over{g:Goroutine}{l:List A.M}(hb0:0<base)(hrun:g.status = .running)(hoff:g.offers=none)(h:l.Perm (cat A.J A.Ls)→Z v g):RunW P true (K.Proto.Wd (A0w A base)) (AtK P A base Z n 0 (.inl (.fin l))) v g:=by
 refine .stop (Le.refl v) (.inl ⟨Y,Y,hrun,hoff,fun e=>(by cases e),fun γ w O hth hag hS hd hcalm=>⟨fun hbl=>absurd hbl (nblk0 hb0),fun _=>?_⟩⟩)
 have hm:γ.mn = .fin l:=mn_of (base:=base) hth
 have hcl:γ.cl = .off:=O.fin (by rw [hm];rfl)
 have hgone:=O.gone (by rw [hcl];rfl)
 have hp:=O.perm
 rw [hm,cat_nil (fun j hj=>by rw [hgone j hj];rfl)]at hp
 simp only [gotL,List.append_nil]at hp
 have hr:K.Proto.rest (A0w A base) γ=noView:=by
  funext b'
  unfold K.Proto.rest
  split
  ·rfl
  ·rename_i h'
   show shF A γ b'=none
   have h':¬(b'=A.Wg∨b'=A.Ch):=h'
   simp only [not_or]at h'
   unfold shF
   rw [if_neg h'.1,if_neg h'.2]
 refine .over Y (by show isF γ.mn=true;rw [hm];rfl) ?_
 rw [hr]
 have:v.union noView=v:=by funext b';unfold View.union;cases v b'<;>rfl
 rw [this]
 exact h hp
def start(M:Type):FS M:={mn:=.a0 0,st:=0,ph:=fun _=>.un,cl:=.un,v:=0,wt:=0,sm:=0,s:=0 }
theorem start_ok(A:Par):Ok A.J A.Ls (start A.M):=by
 have z:∀φ:Wk A.M→Nat,φ .un=0→Sw A.J (fun _=>.un) φ=0:=fun φ h=>Sw_zero fun _ _=>h
 refine⟨fun k h=>?_,fun h=>(by cases h),fun h=>(by cases h),fun j=>⟨fun _=>.inl (Nat.zero_le _),fun _=>rfl⟩,⟨fun _=>Nat.zero_le _,fun _=>rfl⟩,?_,fun h=>(by cases h),fun _=>⟨rfl,z _ rfl,?_⟩,fun h=>(by cases h),fun o h=>(by cases h),?_,fun h=>(by cases h)⟩
 ·cases h;exact⟨rfl,A.J1⟩
 ·show 0=Sw A.J (fun _=>.un) A3y+0;rw [z A3y rfl]
 ·show Sw A.J (fun _=>.un) d5c+0=0;rw [z d5c rfl]
 ·exact List.Perm.refl _
theorem begins_fan{u v:View}{g:Goroutine}(hb0:0<base)(h2:v A.Wg=some (true,wgB A.tW 0 0 0))(h3:v A.Ch=some (true,.chan 0 #[] false 0 0 false))(hu:Weak u v)(huW:u A.Wg=none)(huC:u A.Ch=none)
    (hjob:∀n,K.Job P (A0w A base) base Z n 0 (.inl (.a0 0)) u g):K.Begins P v g Z base (A0w A base) (start A.M) u (.inl (.a0 0)) where
  laws:=laws A base hb0
  wake:=fun {γ i γ'} O h hs=>by
    rcases tr_ph O h with ⟨k,_,rfl,_,_,_,_,h2,h3,_⟩|⟨_,rfl,_,_,_,_,h2,h3,_⟩|⟨rfl,_,h1,_⟩|⟨rfl,_,h1,_⟩|⟨a,q,ha,rfl,_,_,h1,_⟩
    · refine⟨fun j hj ⟨e1,e2,e3⟩=>⟨e1,by rw [h3];exact e2,by rw [h2];exact e3⟩,?_⟩
      show A5u γ'.cl=A5u γ.cl
      rw [h3]
    · refine⟨fun j hj ⟨e1,e2,e3⟩=>absurd e2 (by rw [h2];simp),?_⟩
      show A5u γ'.cl=A5u γ.cl
      rw [h2,h3];rfl
    · have hs:base+γ'.st=base+γ.st+1:=hs
      omega
    · have hs:base+γ'.st=base+γ.st+1:=hs
      omega
    · have hs:base+γ'.st=base+γ.st+1:=hs
      omega
  ok:=start_ok A
  size:=rfl
  th:=A2o (base:=base)
  oth:=fun j hj=>by
    show thF A base (start A.M) j=none
    cases e:thF A base (start A.M) j with
    | none=>rfl
    | some τ=>
      rcases B0e e with ⟨h,_⟩|⟨a,_,_,h,_⟩|⟨_,h,_⟩
      · exact absurd h hj
      · exact absurd Y h
      · exact absurd Y h
  rel:=rfl
  deaf:=rfl
  usr:=fun b' j' ⟨_,h⟩=>by
    have h:j'=0∨(base≤j'∧j'<base+0):=h
    omega
  weak:=hu
  sh:=fun b' x h=>by
    have hh:shF A (start A.M) b'=some x:=h
    by_cases e2:b'=A.Wg
    · subst e2;rw [A9l]at hh;cases hh;exact⟨h2,rfl⟩
    by_cases e3:b'=A.Ch
    · subst e3;rw [sh_ch]at hh;cases hh;exact⟨h3,rfl⟩
    · unfold shF at hh
      rw [if_neg e2,if_neg e3]at hh
      cases hh
  disj:=fun b'=>by
    by_cases e2:b'=A.Wg
    · subst e2;exact .inl huW
    by_cases e3:b'=A.Ch
    · subst e3;exact .inl huC
    · right
      show shF A (start A.M) b'=none
      unfold shF
      rw [if_neg e2,if_neg e3]
  job:=hjob _
end
end Go.Pal.Fan
end
section
namespace Go.Pal.Fan
open Go Go.Conc Go.Pal View
def Do(P:Program)(A:Par)(base:Nat)(Z:View→Goroutine→Prop)(i:Nat)(τ:TF A)(v:View)(g:Goroutine):Prop:=∀n,K.Job P (A0w A base) base Z n i τ v g
section
variable{P:Program}{A:Par}{base:Nat}{Z:View→Goroutine→Prop}{j i:Nat}{τ:TF A}{N:Nat}{b:Frame}{cs:List Frame}{ds:List Deferred}{ρ:Regs}{v:View}{k:List Item}{mn:Who}{g:Goroutine}
theorem abs_do(hm:(i==0)=mn.main)(hp:mn.ph=false)(hr:(A0w A base).rel τ=false):Abs P mn (Do P A base Z i τ):=⟨fun h n=>
 A6j hm hr fun m _=>RunW.of_run hp (h.mono fun _ _ hs=>.stop (Le.refl _) (job_out hm hr (hs (m+1))))⟩
theorem abs_wk(hb0:0<base)(l:List A.M):Abs P ⟨false,false⟩ (Do P A base Z (base+j) (.inr (.inl (.sd l)))):=abs_do (by simp;omega) Y Y
theorem abs_mn(q:Mn A.M):Abs P ⟨true,false⟩ (Do P A base Z 0 (.inl q)):=abs_do Y Y Y
theorem abs_cl(hb0:0<base)(q:Cl):Abs P ⟨false,false⟩ (Do P A base Z (base+A.J) (.inr (.inr q))):=abs_do (by simp;omega) Y Y
theorem do_stop(hm:(i==0)=mn.main)(hr:(A0w A base).rel τ=false)(h:∀n,XK P mn.main A base Z n i τ N b k cs ds ρ v):XG (Do P A base Z i τ v) N b k cs ds ρ:=fun a hf n=>A6j hm hr fun m _=>h m a hf
theorem do_at(h:XG (Do P A base Z i τ v) N b k cs ds ρ)(n:Nat):JK P A base Z n i τ N b k cs ds ρ v:=fun a hf=>h a hf n
variable{ops:Array Oper}{ii:Nat}{rest:List Nat}{d:Nat}{op:Op}{ty:TypeId}{pos:String}{af:Array Edge}{gu:Option (Nat×Bool)}
theorem R_send{m:A.M}{l:List A.M}{y z:Value}{u0 ux:View}(hb0:0<base)(hk:b.kind≠.early)(hrun:∀c,Fits N ⟨ds,ρ,[]⟩ c→∀w,(execOp c.eval ⟨none,op,ty,pos,af,gu⟩).runT P w #[]=(.ok (.comm #[scase A.Ch y z] true .send) w,#[]))
  (hd:b.roundOf=none∨A1t op=false)(ho:ops[ii]?=some ⟨none,op,ty,pos,af,gu⟩)(hw:A0p ops gu ρ=some true)
  (hmsg:A.msg m y ux)(hux:∀b,ux b≠none→ux.Owns b∧u0 b=none)(h0:u0.Le v)(h1:ux.Le v)
  (h:XG (Do P A base Z (base+j) (.inr (.inl (.sd l))) u0) N b (.inRegion ops rest::k) cs ds ρ) :
  XG (Do P A base Z (base+j) (.inr (.inl (.sd (m::l)))) v) N b (.inRegion ops (ii::rest)::k) cs ds ρ:=
 do_stop (mn:=⟨false,false⟩) (by simp;omega) rfl fun n=>s_send hb0 hk hrun hd ho hw hmsg hux h0 h1 (do_at h n)
end
end Go.Pal.Fan
end
section
namespace Go.Pal.Fan
open Go Go.Conc Go.Pal View
open Go.Pal.Mu (wgV wgB OnB BkE MuteD cell_of)
section
variable{P:Program}{A:Par}{base:Nat}{N:Nat}{b:Frame}{cs:List Frame}{ds:List Deferred}{ρ:Regs}{v:View}{k:List Item}{ops:Array Oper}{i:Nat}{rest:List Nat}{d:Nat}{ty:TypeId}{pos:String}{af:Array Edge}{gu:Option (Nat×Bool)}{o1:Operand}
theorem F_conv{main:Bool}{Stop:View→Goroutine→Prop}{t1 t2 t:TypeId}{off:Nat}(hk:b.kind≠.early)(hr:b.roundOf=none)(ho:ops[i]?=some ⟨some d,.convert t1 t2 o1,ty,pos,af,gu⟩)(hw:A0p ops gu ρ=some true)(hn:Nat.blt d N=true)
  (hs:P.underlying t1=some (.pointer t))(hd:P.underlying t2=some .unsafePointer)(hsz:(P.info? t).map (fun i=>decide (i.size=0))=some false)(h1:ρ.val o1=some (.pointer (some ⟨A.Wg,off,none⟩)))(hoff:off<2)
  (h:XF P main (K.Proto.Wd (A0w A base)) Stop N b (.inRegion ops rest::k) cs ds ((d,.pointer (some ⟨A.Wg,off,none⟩))::ρ) v):XF P main (K.Proto.Wd (A0w A base)) Stop N b (.inRegion ops (i::rest)::k) cs ds ρ v:=fun c hf=>by
 refine .step Y (fun _=>G (b.on (c.put (some d) (.pointer (some ⟨A.Wg,off,none⟩))) (.inRegion ops rest::k)) cs) (fun w=>w) (fun _=>#[]) (fun _=>v) (fun w hW hag=>⟨?_,.refl hag⟩) (fun _ _ _=>h _ (A0x hf (show A2p N (some d)=true from hn)))
 obtain⟨γ,O,hS⟩:=hW
 have hcell:∃y,w.cell? ⟨A.Wg,off,none⟩=some y:=by
  have hwg:w.heap[A.Wg]?=some (wgB A.tW γ.v γ.wt γ.sm):=hS A.Wg true _ A9l
  rw [cell_of hwg]
  match off,hoff with
  | 0,_=>exact⟨_,rfl⟩
  | 1,_=>exact⟨_,rfl⟩
 obtain⟨y,hy⟩:=hcell
 have e1:c.eval o1=_:=A0k hf _ _ h1
 have hrun:(execOp c.eval ⟨some d,.convert t1 t2 o1,ty,pos,af,gu⟩).run P w = .ok (.value (.pointer (some ⟨A.Wg,off,none⟩))) w:=by
  unfold execOp
  simp only [e1]
  rw [Sem.run_bind,run_convert_to_unsafe hs hd hsz hy];rfl
 have hev:(execOp c.eval ⟨some d,.convert t1 t2 o1,ty,pos,af,gu⟩).events P w #[]=#[]:=by
  unfold execOp
  simp only [e1]
  rw [Sem.events_bind,run_convert_to_unsafe hs hd hsz hy]
  exact events_convert_to_unsafe hs hd hsz hy #[]
 rw [A1u hr,A1u hr,stepG_value (v:=.pointer (some ⟨A.Wg,off,none⟩)) (w':=w) ho (A0m hf (A0j hw)) hk hrun]
 unfold listed
 rw [hev]
 simp [seen_none]
end
section
variable{P:Program}{A:Par}{base:Nat}{Z:View→Goroutine→Prop}{i n:Nat}{τ:TF A}{mn:Who}
theorem abs_job(hm:(i==0)=mn.main)(hp:mn.ph=false)(hr:(A0w A base).rel τ=false):Abs P mn (K.Job P (A0w A base) base Z n i τ):=⟨fun h=>by
 cases n with
 | zero=>trivial
 | succ m=>exact A6j hm hr fun m' hm'=>RunW.of_run hp (h.mono fun _ _ hs=>.stop (Le.refl _) (by
   obtain rfl:m=m':=oM
   exact job_out hm hr hs))⟩
theorem recv_runT(T:Tab P){t el:TypeId}{dir:ChanDir}{z:Value}{ev:Operand→Value}{dd:Option Nat}{y:Operand}{ty:TypeId}{pos:String}{af:Array Edge}{gu:Option (Nat×Bool)}{c:Nat}(ht:T.und t=some (.chan dir el))(hz:T.zer el=some z)(hc:ev y = .chan (some c))(w:World) :
  (execOp ev ⟨dd,.recv t y true,ty,pos,af,gu⟩).runT P w #[]=(.ok (.comm #[rcase c z] true (.recv true)) w,#[]):=by
 have h1:=T.und_ok _ _ ht
 obtain⟨inf,h2,h3⟩:=T.zer_ok _ _ hz
 have e1:(underlying t).runT P w #[]=(.ok (.chan dir el) w,#[]):=by
  show Sem.runT P (match P.underlying t with|some d=>pure d|none=>stuck "no such type") w #[]=_
  rw [h1]
  rfl
 have e2:(zeroValue el).runT P w #[]=(.ok z w,#[]):=by
  have e3:(typeInfo el).runT P w #[]=(.ok inf w,#[]):=by
   show Sem.runT P (match P.info? el with|some i=>pure i|none=>stuck "no such type") w #[]=_
   rw [h2]
   rfl
  unfold zeroValue
  show(Sem.bind _ _).runT P w #[]=_
  rw [Sem.runT_bind',e3]
  show Sem.runT P (match inf.zero with|some v=>pure v|none=>_) w #[]=_
  rw [h3]
  rfl
 unfold execOp
 show(Sem.bind _ _).runT P w #[]=_
 rw [Sem.runT_bind',e1]
 show(Sem.bind _ _).runT P w #[]=_
 rw [Sem.runT_bind',e2]
 simp only [hc]
 rfl
end
end Go.Pal.Fan
end
section
namespace Go.Proofs.YtclejblcnfaeaaaGreatDoor
open Go Go.Pal
open Go.Proofs.Tryz
set_option maxHeartbeats 400000
theorem e178:Ext prog 199 f199 (Extern.Race.marked .releaseMerge):=⟨func199,Y,Y,by kernel_rfl,kR⟩
theorem e179:Ext prog 200 f200 (fun _=>do mark .disable;pure Extern.Race.none_):=⟨func200,Y,Y,by kernel_rfl,kR⟩
theorem e180:Ext prog 201 f201 (fun _=>do mark .enable;pure Extern.Race.none_):=⟨func201,Y,Y,by kernel_rfl,kR⟩
theorem e181:Ext prog 202 f202 (fun _=>pure (.bool false)):=⟨func202,Y,Y,by kernel_rfl,kR⟩
theorem e210:Ext prog 232 f232 (Extern.Atomic.update (Op.intArith .add) .u64 true):=⟨func232,Y,Y,by kernel_rfl,kR⟩
theorem e186:Ext prog 207 f207 (Extern.Race.marked .read):=⟨func207,Y,Y,by kernel_rfl,kR⟩
theorem e211:Ext prog 233 f233 (Extern.Atomic.loadT (.int .u64)):=⟨func233,Y,Y,by kernel_rfl,kR⟩
theorem e212:Ext prog 234 f234 Extern.Atomic.storeT:=⟨func234,Y,Y,by kernel_rfl,kR⟩
theorem e190:Ext prog 211 f211 Extern.Sync.semrelease:=⟨func211,Y,Y,by kernel_rfl,kR⟩
theorem e191:Ext prog 212 f212 (Extern.Race.marked .acquire):=⟨func212,Y,Y,by kernel_rfl,kR⟩
theorem e213:Ext prog 235 f235 (Extern.Atomic.casT (.int .u64)):=⟨func235,Y,Y,by kernel_rfl,kR⟩
theorem e194:Ext prog 215 f215 (Extern.Race.marked .write):=⟨func215,Y,Y,by kernel_rfl,kR⟩
theorem e195:Ext prog 216 f216 Extern.Sync.semacquire:=⟨func216,Y,Y,by kernel_rfl,kR⟩
theorem B1n{t n:Nat}(h:tab.siz t=some (n+1)):(prog.info? t).map (fun i=>decide (i.size=0))=some false:=by
 obtain⟨i,hi,hs⟩:=tab.siz_ok _ _ h
 rw [hi];simp [hs]
theorem deaf_dis0:deafBehind 0 #[mkE .disable]=1:=by simp [deafBehind]
end Go.Proofs.YtclejblcnfaeaaaGreatDoor
end
